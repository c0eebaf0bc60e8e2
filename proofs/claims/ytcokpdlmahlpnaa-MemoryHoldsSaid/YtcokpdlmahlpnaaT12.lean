/- Contracts, walked by program over the engine's laws. -/
import Derived.Test.YtcokpdlmahlpnaaProg
import Derived.Test.YtcokpdlmahlpnaaT11
namespace Go.Proofs.Ytcokpdlmahlpnaa.L
open Go.RowKit

def enB6 (x : Int) : List Value := [.int .u8 x]
theorem elt_B6 : Elt Try.prog 5 1 enB6 := ⟨⟨Value.int .u8 0, 1, by kernel_rfl, rfl, by decide⟩, by decide, fun _ => rfl, fun x u hu => List.all_eq_true.1 (show (enB6 x).all (·.oneCell') = true from rfl) u hu⟩
theorem bits_range (op : BinOp) (a b : Int) : 0 ≤ bits op .u64 a b ∧ bits op .u64 a b ≤ 18446744073709551615 := by
  unfold bits IntKind.wrap
  simp only [IntKind.bits, IntKind.signed]
  simp
  omega
/-- A bit's step; so many; a byte's; the sum of bytes. -/
def bitStep (s : Int) : Int := if s % 2 = 1 then bits .xor .u64 (s / 2) 14514072000185962306 else s / 2
def bitsN : Nat → Int → Int
  | 0, s => s
  | n + 1, s => bitStep (bitsN n s)
def byteStep (s b : Int) : Int := bitsN 8 (bits .xor .u64 s b)
def sumM (b : List Int) : Int := bits .xor .u64 18446744073709551615 (b.foldl byteStep 18446744073709551615)
set_option maxRecDepth 100000 in
theorem e_of02 (A_b : Option Addr) (c_b : Nat) (b : List Int) (w : World) (hr_b : RowAt w A_b 1 enB6 b) (hc_b : b.length ≤ c_b) (hl : b.length ≤ 100000) (hb : ∀ x ∈ b, 0 ≤ x ∧ x ≤ 255) : Calls Try.prog 25 #[Value.slice A_b b.length c_b] w (fun e w' => e = .returned (Value.int .u64 (sumM b)) ∧ Fr No w w') := by
 have _hu := hc_b; have _hv := hr_b; clear _hu _hv
 have _hu := hl; clear _hu
 have _hu := hb; clear _hu
 refine enter_E 34 Try.func25 rfl rfl (by kernel_rfl) (L := [(0, Value.slice A_b b.length c_b)]) (by kernel_rfl) ?_
 intro ac hA
 have hW := Ws.start w No
 have hW := hW.arg hr_b
 refine wp_seq ?_
 refine wp_region_lit ?_
 refine st_rd (v := Value.int .u64 0) hA (by kernel_rfl) (by kernel_rfl) (by kernel_rfl) hW.cls (Rd.pure fun _ => by kernel_rfl) ?_; clear hA ac; intro ac hA
 refine wpList_nil ?_
 refine thenN ?_
 refine wp_seq ?_
 refine wp_region_lit ?_
 refine st_rd (v := Value.int .u64 18446744073709551615) hA (by kernel_rfl) (by kernel_rfl) (by kernel_rfl) hW.cls (Rd.pure fun _ => by kernel_rfl) ?_; clear hA ac; intro ac hA
 refine wpList_nil ?_
 refine thenN ?_
 refine wp_seq ?_
 refine wp_seq ?_
 refine wp_region_lit ?_
 refine st_rd (v := Value.int .i64 0) hA (by kernel_rfl) (by kernel_rfl) (by kernel_rfl) hW.cls (Rd.pure fun _ => by kernel_rfl) ?_; clear hA ac; intro ac hA
 refine wpList_nil ?_
 refine thenN ?_
 refine wp_block ?_
 refine wp_loop_m (fun m_ ac_ wl_ => ∃ k : Nat, ∃ s1 : Int, m_ = b.length - k ∧ (k ≤ b.length) ∧ (s1 = (b.take k).foldl byteStep 18446744073709551615) ∧ (0 ≤ s1 ∧ s1 ≤ 18446744073709551615) ∧ Fm 34 [] [(0, Value.slice A_b b.length c_b), (3, Value.int .u64 s1), (4, Value.int .i64 ((k : Nat) : Int))] ac_ ∧ Ws w No [] [roR A_b 1 enB6 b] wl_) _ ⟨0, 18446744073709551615, rfl, by omega, by rfl, by omega, hA.sub ⟨⟨by kernel_rfl, by kernel_rfl⟩, ⟨by kernel_rfl, by kernel_rfl⟩, ⟨by kernel_rfl, by kernel_rfl⟩, trivial⟩, (hW.pick [] (by decide) rfl).pickG [0] rfl⟩ ?_
 clear hA ac hW; rintro m_ ac w1 ⟨k, s1, rfl, hk, hs, hr, hA, hW⟩
 refine wp_seq ?_
 refine wp_seq ?_
 refine wp_region_lit ?_
 refine st_rd (v := Value.int .i64 ((k : Nat) : Int)) hA (by kernel_rfl) (by kernel_rfl) (by kernel_rfl) hW.cls (Rd.pure fun _ => by kernel_rfl) ?_; clear hA ac; intro ac hA
 refine st_rd (v := Value.slice A_b b.length c_b) hA (by kernel_rfl) (by kernel_rfl) (by kernel_rfl) hW.cls (Rd.pure fun _ => by kernel_rfl) ?_; clear hA ac; intro ac hA
 refine st_rd (v := Value.int .i64 ((b.length : Nat) : Int)) hA (by kernel_rfl) (by kernel_rfl) (by kernel_rfl) hW.cls (Rd.pure fun _ => by kernel_rfl) ?_; clear hA ac; intro ac hA
 refine st_rd (v := Value.bool (decide ((((k : Nat) : Int) : Int) < (((b.length : Nat) : Int) : Int)))) hA (by kernel_rfl) (by kernel_rfl) (by kernel_rfl) hW.cls (Rd.pure fun _ => by kernel_rfl) ?_; clear hA ac; intro ac hA
 refine wpList_nil ?_
 refine thenN ?_
 refine wp_cond_split (t := decide ((((k : Nat) : Int) : Int) < (((b.length : Nat) : Int) : Int))) (hA.eval (by kernel_rfl)) (fun h2 => ?_) (fun h2 => ?_)
 · skip
   have h2 := of_decide_eq_true h2
   first
   | (exfalso; clear hA hW; omega)
   | (
     refine wp_skip ?_
     refine thenN ?_
     refine wp_seq ?_
     refine wp_block ?_
     refine wp_seq ?_
     obtain ⟨y_, hy_⟩ : ∃ y, b[k]? = some y := ⟨_, List.getElem?_eq_getElem (by omega)⟩; have hyb_ := hb _ (List.mem_of_getElem? hy_)
     refine wp_region_lit ?_
     refine st_rd (v := Value.int .u64 s1) hA (by kernel_rfl) (by kernel_rfl) (by kernel_rfl) hW.cls (Rd.pure fun _ => by kernel_rfl) ?_; clear hA ac; intro ac hA
     refine st_rd (v := Value.slice A_b b.length c_b) hA (by kernel_rfl) (by kernel_rfl) (by kernel_rfl) hW.cls (Rd.pure fun _ => by kernel_rfl) ?_; clear hA ac; intro ac hA
     refine st_rd (v := Value.int .i64 ((k : Nat) : Int)) hA (by kernel_rfl) (by kernel_rfl) (by kernel_rfl) hW.cls (Rd.pure fun _ => by kernel_rfl) ?_; clear hA ac; intro ac hA
     obtain ⟨b3, o4, rfl, hbb3⟩ := row_some ((hW).getG 0 rfl) hy_
     refine st_rd (v := Value.pointer (some ⟨b3, o4 + k * 1, none⟩)) hA (by kernel_rfl) (by kernel_rfl) (by kernel_rfl) hW.cls (Rd.indexAddr (e := 5) (sz := 1) (b := b3) (off := o4) (n := b.length) (c := c_b) (k := k) (by kernel_rfl) (by kernel_rfl) (by first | omega | (simp; done) | (simp; omega)) (fun _ => by kernel_rfl) (fun _ => by kernel_rfl)) ?_; clear hA ac; intro ac hA
     refine st_rd (v := Value.int .u8 y_) hA (by kernel_rfl) (by kernel_rfl) (by kernel_rfl) hW.cls (Rd.loadRow (b := b3) (i := o4 + k * 1) (xs := [Value.int .u8 y_]) (by kernel_rfl) (fun _ hw => row_ld ((hw.1).getG 0 rfl) hy_ (Fr.refl No _) (fun h => h) 0 1 (by kernel_rfl)) (by kernel_rfl)) ?_; clear hA ac; intro ac hA
     refine st_rd (v := Value.int .u64 y_) hA (by kernel_rfl) (by kernel_rfl) (by kernel_rfl) hW.cls (Rd.pureE (v0 := Value.int .u64 (IntKind.u64.wrap (y_))) (fun _ => by kernel_rfl) (congrArg (Value.int .u64) (w_u64 (x := y_) (by omega) (by omega)))) ?_; clear hA ac; intro ac hA
     refine st_rd (v := Value.int .u64 (bits .xor .u64 (s1 : Int) (y_ : Int))) hA (by kernel_rfl) (by kernel_rfl) (by kernel_rfl) hW.cls (Rd.pure fun _ => by kernel_rfl) ?_; clear hA ac; intro ac hA
     refine st_rd (v := Value.int .u64 (bits .xor .u64 (s1 : Int) (y_ : Int))) hA (by kernel_rfl) (by kernel_rfl) (by kernel_rfl) hW.cls (Rd.pure fun _ => by kernel_rfl) ?_; clear hA ac; intro ac hA
     refine wpList_nil ?_
     refine thenN ?_
     refine wp_seq ?_
     refine wp_region_lit ?_
     refine st_rd (v := Value.int .i64 0) hA (by kernel_rfl) (by kernel_rfl) (by kernel_rfl) hW.cls (Rd.pure fun _ => by kernel_rfl) ?_; clear hA ac; intro ac hA
     refine wpList_nil ?_
     refine thenN ?_
     refine wp_block ?_
     refine wp_loop_m (fun m_ ac_ wl_ => ∃ j : Nat, ∃ s2 : Int, m_ = 8 - j ∧ (j ≤ 8) ∧ (s2 = bitsN j (bits .xor .u64 s1 y_)) ∧ (0 ≤ s2 ∧ s2 ≤ 18446744073709551615) ∧ Fm 34 [] [(0, Value.slice (some ⟨b3, o4, none⟩) b.length c_b), (3, Value.int .u64 s2), (4, Value.int .i64 ((k : Nat) : Int)), (5, Value.int .i64 ((j : Nat) : Int))] ac_ ∧ Ws w No [] [roR (some ⟨b3, o4, none⟩) 1 enB6 b] wl_) _ ⟨0, (bits .xor .u64 (s1 : Int) (y_ : Int)), rfl, by omega, by rfl, by exact bits_range _ _ _, hA.sub ⟨⟨by kernel_rfl, by kernel_rfl⟩, ⟨by kernel_rfl, by kernel_rfl⟩, ⟨by kernel_rfl, by kernel_rfl⟩, ⟨by kernel_rfl, by kernel_rfl⟩, trivial⟩, (hW.pick [] (by decide) rfl).pickG [0] rfl⟩ ?_
     clear hA ac hW; rintro m_ ac w5 ⟨j, s2, rfl, hj, hs2, hr2, hA, hW⟩
     refine wp_seq ?_
     refine wp_seq ?_
     refine wp_region_lit ?_
     refine st_rd (v := Value.int .i64 ((j : Nat) : Int)) hA (by kernel_rfl) (by kernel_rfl) (by kernel_rfl) hW.cls (Rd.pure fun _ => by kernel_rfl) ?_; clear hA ac; intro ac hA
     refine st_rd (v := Value.bool (decide ((((j : Nat) : Int) : Int) < (8 : Int)))) hA (by kernel_rfl) (by kernel_rfl) (by kernel_rfl) hW.cls (Rd.pure fun _ => by kernel_rfl) ?_; clear hA ac; intro ac hA
     refine wpList_nil ?_
     refine thenN ?_
     refine wp_cond_split (t := decide ((((j : Nat) : Int) : Int) < (8 : Int))) (hA.eval (by kernel_rfl)) (fun h6 => ?_) (fun h6 => ?_)
     · skip
       have h6 := of_decide_eq_true h6
       first
       | (exfalso; clear hA hW; omega)
       | (
         refine wp_skip ?_
         refine thenN ?_
         refine wp_seq ?_
         refine wp_block ?_
         refine wp_seq ?_
         refine wp_region_lit ?_
         refine st_rd (v := Value.int .u64 s2) hA (by kernel_rfl) (by kernel_rfl) (by kernel_rfl) hW.cls (Rd.pure fun _ => by kernel_rfl) ?_; clear hA ac; intro ac hA
         refine st_rd (v := Value.int .u64 ((s2 : Int) % 2)) hA (by kernel_rfl) (by kernel_rfl) (by kernel_rfl) hW.cls (Rd.pureE (v0 := Value.int .u64 (Int.tmod (s2 : Int) 2)) (fun _ => by kernel_rfl) (congrArg (Value.int .u64) (rem_ (x := s2) (by omega)))) ?_; clear hA ac; intro ac hA
         refine st_rd (v := Value.bool (((s2 : Int) % 2 : Int) == (1 : Int))) hA (by kernel_rfl) (by kernel_rfl) (by kernel_rfl) hW.cls (Rd.pure fun _ => by kernel_rfl) ?_; clear hA ac; intro ac hA
         refine st_rd (v := Value.bool (((s2 : Int) % 2 : Int) == (1 : Int))) hA (by kernel_rfl) (by kernel_rfl) (by kernel_rfl) hW.cls (Rd.pure fun _ => by kernel_rfl) ?_; clear hA ac; intro ac hA
         refine wpList_nil ?_
         refine thenN ?_
         refine wp_seq ?_
         refine wp_region_lit ?_
         refine st_rd (v := Value.int .u64 s2) hA (by kernel_rfl) (by kernel_rfl) (by kernel_rfl) hW.cls (Rd.pure fun _ => by kernel_rfl) ?_; clear hA ac; intro ac hA
         refine st_rd (v := Value.int .u64 ((s2 : Int) / 2)) hA (by kernel_rfl) (by kernel_rfl) (by kernel_rfl) hW.cls (Rd.pureE (v0 := Value.int .u64 (IntKind.u64.wrap (Int.tdiv (s2 : Int) 2))) (fun _ => by kernel_rfl) (congrArg (Value.int .u64) ((congrArg IntKind.u64.wrap (quo_ (x := s2) (by omega))).trans (w_u64 (by omega) (by omega))))) ?_; clear hA ac; intro ac hA
         refine st_rd (v := Value.int .u64 ((s2 : Int) / 2)) hA (by kernel_rfl) (by kernel_rfl) (by kernel_rfl) hW.cls (Rd.pure fun _ => by kernel_rfl) ?_; clear hA ac; intro ac hA
         refine wpList_nil ?_
         refine thenN ?_
         refine wp_seq ?_
         refine wp_region_lit ?_
         refine st_rd (v := Value.bool (((s2 : Int) % 2 : Int) == (1 : Int))) hA (by kernel_rfl) (by kernel_rfl) (by kernel_rfl) hW.cls (Rd.pure fun _ => by kernel_rfl) ?_; clear hA ac; intro ac hA
         refine wpList_nil ?_
         refine thenN ?_
         refine wp_cond_split (t := ((s2 : Int) % 2 : Int) == (1 : Int)) (hA.eval (by kernel_rfl)) (fun h7 => ?_) (fun h7 => ?_)
         · skip
           have h7 := eq_of_beq h7
           first
           | (exfalso; clear hA hW; omega)
           | (
             refine wp_region_lit ?_
             refine st_rd (v := Value.int .u64 ((s2 : Int) / 2)) hA (by kernel_rfl) (by kernel_rfl) (by kernel_rfl) hW.cls (Rd.pure fun _ => by kernel_rfl) ?_; clear hA ac; intro ac hA
             refine st_rd (v := Value.int .u64 (bits .xor .u64 ((s2 : Int) / 2 : Int) (14514072000185962306 : Int))) hA (by kernel_rfl) (by kernel_rfl) (by kernel_rfl) hW.cls (Rd.pure fun _ => by kernel_rfl) ?_; clear hA ac; intro ac hA
             refine st_rd (v := Value.int .u64 (bits .xor .u64 ((s2 : Int) / 2 : Int) (14514072000185962306 : Int))) hA (by kernel_rfl) (by kernel_rfl) (by kernel_rfl) hW.cls (Rd.pure fun _ => by kernel_rfl) ?_; clear hA ac; intro ac hA
             refine wpList_nil ?_
             refine blkN ?_
             refine thenN ?_
             refine wp_region_lit ?_
             refine st_rd (v := Value.int .i64 ((j : Nat) : Int)) hA (by kernel_rfl) (by kernel_rfl) (by kernel_rfl) hW.cls (Rd.pure fun _ => by kernel_rfl) ?_; clear hA ac; intro ac hA
             refine st_rd (v := Value.int .i64 ((j + 1 : Nat) : Int)) hA (by kernel_rfl) (by kernel_rfl) (by kernel_rfl) hW.cls (Rd.pureE (v0 := Value.int .i64 (IntKind.i64.wrap ((((j : Nat) : Int) : Int) + 1))) (fun _ => by kernel_rfl) (congrArg (Value.int .i64) ((w_i64 (x := (((j : Nat) : Int) : Int) + 1) (by omega) (by omega)).trans (by omega)))) ?_; clear hA ac; intro ac hA
             refine st_rd (v := Value.int .i64 ((j + 1 : Nat) : Int)) hA (by kernel_rfl) (by kernel_rfl) (by kernel_rfl) hW.cls (Rd.pure fun _ => by kernel_rfl) ?_; clear hA ac; intro ac hA
             refine wpList_nil ?_
             refine thenN ?_
             exact ⟨8 - (j + 1), by omega, j + 1, (bits .xor .u64 ((s2 : Int) / 2 : Int) (14514072000185962306 : Int)), rfl, by omega, by rw [show bitsN (j + 1) _ = bitStep (bitsN j _) from rfl, ← hs2]; unfold bitStep; rw [if_pos (by omega)], by first | exact bits_range _ _ _ | omega, hA.sub ⟨⟨by kernel_rfl, by kernel_rfl⟩, ⟨by kernel_rfl, by kernel_rfl⟩, ⟨by kernel_rfl, by kernel_rfl⟩, ⟨by kernel_rfl, by kernel_rfl⟩, trivial⟩, (hW.pick [] (by decide) rfl).pickG [0] rfl⟩)
         · skip
           have h7 := ne_of_beq_false h7
           first
           | (exfalso; clear hA hW; omega)
           | (
             refine wp_skip ?_
             refine blkN ?_
             refine thenN ?_
             refine wp_region_lit ?_
             refine st_rd (v := Value.int .i64 ((j : Nat) : Int)) hA (by kernel_rfl) (by kernel_rfl) (by kernel_rfl) hW.cls (Rd.pure fun _ => by kernel_rfl) ?_; clear hA ac; intro ac hA
             refine st_rd (v := Value.int .i64 ((j + 1 : Nat) : Int)) hA (by kernel_rfl) (by kernel_rfl) (by kernel_rfl) hW.cls (Rd.pureE (v0 := Value.int .i64 (IntKind.i64.wrap ((((j : Nat) : Int) : Int) + 1))) (fun _ => by kernel_rfl) (congrArg (Value.int .i64) ((w_i64 (x := (((j : Nat) : Int) : Int) + 1) (by omega) (by omega)).trans (by omega)))) ?_; clear hA ac; intro ac hA
             refine st_rd (v := Value.int .i64 ((j + 1 : Nat) : Int)) hA (by kernel_rfl) (by kernel_rfl) (by kernel_rfl) hW.cls (Rd.pure fun _ => by kernel_rfl) ?_; clear hA ac; intro ac hA
             refine wpList_nil ?_
             refine thenN ?_
             exact ⟨8 - (j + 1), by omega, j + 1, (s2 : Int) / 2, rfl, by omega, by rw [show bitsN (j + 1) _ = bitStep (bitsN j _) from rfl, ← hs2]; unfold bitStep; rw [if_neg (by omega)], by first | exact bits_range _ _ _ | omega, hA.sub ⟨⟨by kernel_rfl, by kernel_rfl⟩, ⟨by kernel_rfl, by kernel_rfl⟩, ⟨by kernel_rfl, by kernel_rfl⟩, ⟨by kernel_rfl, by kernel_rfl⟩, trivial⟩, (hW.pick [] (by decide) rfl).pickG [0] rfl⟩))
     · skip
       have h6 := of_decide_eq_false h6
       first
       | (exfalso; clear hA hW; omega)
       | (
         refine wp_exit ?_
         refine thenX ?_
         refine thenX ?_
         refine blkX ?_
         refine blkN ?_
         refine thenN ?_
         refine wp_region_lit ?_
         refine st_rd (v := Value.int .i64 ((k : Nat) : Int)) hA (by kernel_rfl) (by kernel_rfl) (by kernel_rfl) hW.cls (Rd.pure fun _ => by kernel_rfl) ?_; clear hA ac; intro ac hA
         refine st_rd (v := Value.int .i64 ((k + 1 : Nat) : Int)) hA (by kernel_rfl) (by kernel_rfl) (by kernel_rfl) hW.cls (Rd.pureE (v0 := Value.int .i64 (IntKind.i64.wrap ((((k : Nat) : Int) : Int) + 1))) (fun _ => by kernel_rfl) (congrArg (Value.int .i64) ((w_i64 (x := (((k : Nat) : Int) : Int) + 1) (by omega) (by omega)).trans (by omega)))) ?_; clear hA ac; intro ac hA
         refine st_rd (v := Value.int .i64 ((k + 1 : Nat) : Int)) hA (by kernel_rfl) (by kernel_rfl) (by kernel_rfl) hW.cls (Rd.pure fun _ => by kernel_rfl) ?_; clear hA ac; intro ac hA
         refine wpList_nil ?_
         refine thenN ?_
         exact ⟨b.length - (k + 1), by omega, k + 1, s2, rfl, by omega, by rw [foldl_snoc hy_, ← hs]; show s2 = bitsN 8 _; rw [hs2, show j = 8 from by omega], by exact hr2, hA.sub ⟨⟨by kernel_rfl, by kernel_rfl⟩, ⟨by kernel_rfl, by kernel_rfl⟩, ⟨by kernel_rfl, by kernel_rfl⟩, trivial⟩, (hW.pick [] (by decide) rfl).pickG [0] rfl⟩))
 · skip
   have h2 := of_decide_eq_false h2
   first
   | (exfalso; clear hA hW; omega)
   | (
     refine wp_exit ?_
     refine thenX ?_
     refine thenX ?_
     refine blkX ?_
     refine thenN ?_
     refine wp_seq ?_
     refine wp_region_lit ?_
     refine st_rd (v := Value.int .u64 s1) hA (by kernel_rfl) (by kernel_rfl) (by kernel_rfl) hW.cls (Rd.pure fun _ => by kernel_rfl) ?_; clear hA ac; intro ac hA
     refine st_rd (v := Value.int .u64 (bits .xor .u64 18446744073709551615 (s1 : Int))) hA (by kernel_rfl) (by kernel_rfl) (by kernel_rfl) hW.cls (Rd.pure fun _ => by kernel_rfl) ?_; clear hA ac; intro ac hA
     refine st_rd (v := Value.int .u64 (bits .xor .u64 18446744073709551615 (s1 : Int))) hA (by kernel_rfl) (by kernel_rfl) (by kernel_rfl) hW.cls (Rd.pure fun _ => by kernel_rfl) ?_; clear hA ac; intro ac hA
     refine wpList_nil ?_
     refine thenN ?_
     refine wp_ret ?_
     refine ret1 (v := Value.int .u64 (bits .xor .u64 18446744073709551615 (s1 : Int))) (by rfl) hA (Got.tmp hA (by kernel_rfl) (by kernel_rfl)) ?_
     clear hA
     rw [List.take_of_length_le (by omega)] at hs; exact ⟨retv (congrArg (Value.int .u64) (by unfold sumM; rw [← hs])), hW.fr⟩)

end Go.Proofs.Ytcokpdlmahlpnaa.L
