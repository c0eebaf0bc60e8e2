/- Contracts, walked by program over the engine's laws. -/
import Derived.Test.YtcokpdlmahlpnaaProg
import Derived.Test.YtcokpdlmahlpnaaT16
namespace Go.Proofs.Ytcokpdlmahlpnaa.L
open Go.RowKit

theorem fold_range {l : List Int} {s : Int} (hs : 0 ≤ s ∧ s ≤ 18446744073709551615) (hl : ∀ x ∈ l, 0 ≤ x ∧ x ≤ 255) : 0 ≤ l.foldl byteStep s ∧ l.foldl byteStep s ≤ 18446744073709551615 := by
  induction l generalizing s with
  | nil => exact hs
  | cons c l ih =>
    refine ih ?_ fun x hx => hl x (.tail _ hx)
    have hc := hl c (.head _)
    rw [byteStep_table hs hc]; exact bits_range _ _ _
theorem step_is {f : Nat → Int} {s c : Int} (hT : ∀ q, q < 256 → f q = bitsN 8 (q : Int)) (hs : 0 ≤ s ∧ s ≤ 18446744073709551615) (hc : 0 ≤ c ∧ c ≤ 255) : bits .xor .u64 (f (bits .xor .u8 (s % 256) c).toNat) (s / 256) = byteStep s c := by
  have h := u8_range .xor (s % 256) c
  rw [byteStep_table hs hc, hT _ (by omega)]
  congr 2
set_option maxRecDepth 100000 in
theorem it_65 (b : Nat) (A : Option Addr) (c : Nat) (l : List Int) (hc : l.length ≤ c) (hl : l.length ≤ 1000000) : Iter Try.prog 65 #[Value.pointer (some ⟨b, 0, none⟩)] (fun x_ : Int => #[Value.int .u8 x_]) (· = l) [Cel b #[Value.slice A l.length c] 59, roR A 1 enB6 l] := by
 intro l_ J_ Jx_ r0 w hOs_ hdis_ hR_ hJ0_ hp_ hlt_
 have hW := iterW hOs_ hdis_ hp_ hlt_; clear hOs_ hdis_ hp_ hlt_
 have _hu := hc; clear _hu
 have _hu := hl; clear _hu
 refine enter_F 16 Try.func65 rfl rfl (by kernel_rfl) (L := [(0, Value.func (.yield l_) #[] #[]), (1, Value.pointer (some ⟨b, 0, none⟩))]) (by kernel_rfl) ?_
 intro ac hA
 refine wpIn_seq ?_
 refine wpIn_region_lit ?_
 refine st_rdF (v := Value.slice A l.length c) hA (by kernel_rfl) (by kernel_rfl) (by kernel_rfl) (by kernel_rfl) hW.cls (Rd.load (b := b) (i := 0) (by kernel_rfl) (fun _ hw => show _ = _ from (hw.1).getG 0 rfl) (by kernel_rfl)) ?_; clear hA ac; intro ac hA
 refine st_rdF (v := Value.int .i64 ((l.length : Nat) : Int)) hA (by kernel_rfl) (by kernel_rfl) (by kernel_rfl) (by kernel_rfl) hW.cls (Rd.pure fun _ => by kernel_rfl) ?_; clear hA ac; intro ac hA
 refine st_rdF (v := Value.int .i64 0) hA (by kernel_rfl) (by kernel_rfl) (by kernel_rfl) (by kernel_rfl) hW.cls (Rd.pure fun _ => by kernel_rfl) ?_; clear hA ac; intro ac hA
 refine wpListIn_nil ?_
 refine thenN ?_
 refine wpIn_block ?_
 refine wpIn_loop_m (fun m_ ac_ wl_ => ∃ k : Nat, ∃ r_ : Res, m_ = l.length - k ∧ (k ≤ l.length) ∧ (J_ (l.take k) r_) ∧ Fm 16 [] [(0, Value.func (.yield l_) #[] #[]), (5, Value.slice A l.length c), (6, Value.int .i64 ((l.length : Nat) : Int)), (7, Value.int .i64 ((k : Nat) : Int))] ac_ ∧ Ws w (· ∈ r0.fp) [r_] [Cel b #[Value.slice A l.length c] 59, roR A 1 enB6 l] wl_) _ ⟨0, r0, rfl, by omega, by exact hJ0_, hA.sub ⟨⟨by kernel_rfl, by kernel_rfl⟩, ⟨by kernel_rfl, by kernel_rfl⟩, ⟨by kernel_rfl, by kernel_rfl⟩, ⟨by kernel_rfl, by kernel_rfl⟩, trivial⟩, (hW.pick [0] (by decide) rfl).pickG [0, 1] rfl⟩ ?_
 clear hA ac hW; rintro m_ ac w1 ⟨k, r_, rfl, hk, hJ, hA, hW⟩
 refine wpIn_seq ?_
 refine wpIn_region_lit ?_
 refine st_rdF (v := Value.bool (decide ((((k : Nat) : Int) : Int) < (((l.length : Nat) : Int) : Int)))) hA (by kernel_rfl) (by kernel_rfl) (by kernel_rfl) (by kernel_rfl) hW.cls (Rd.pure fun _ => by kernel_rfl) ?_; clear hA ac; intro ac hA
 refine wpListIn_nil ?_
 refine thenN ?_
 refine wpIn_seq ?_
 refine wpIn_cond_split (t := decide ((((k : Nat) : Int) : Int) < (((l.length : Nat) : Int) : Int))) (hA.eval (by kernel_rfl)) (fun h2 => ?_) (fun h2 => ?_)
 · skip
   have h2 := of_decide_eq_true h2
   first
   | (exfalso; clear hA hW; omega)
   | (
     refine wpIn_skip ?_
     refine thenN ?_
     refine wpIn_seq ?_
     refine wpIn_block ?_
     refine wpIn_seq ?_
     refine wpIn_region_lit ?_
     obtain ⟨y3, hy3⟩ : ∃ y, l[k]? = some y := ⟨_, List.getElem?_eq_getElem (by first | omega | (simp; done) | (simp; omega))⟩
     obtain ⟨b4, o5, rfl, hbb4⟩ := row_some ((hW).getG 1 rfl) hy3
     refine st_rdF (v := Value.pointer (some ⟨b4, o5 + k * 1, none⟩)) hA (by kernel_rfl) (by kernel_rfl) (by kernel_rfl) (by kernel_rfl) hW.cls (Rd.indexAddr (e := 5) (sz := 1) (b := b4) (off := o5) (n := l.length) (c := c) (k := k) (by kernel_rfl) (by kernel_rfl) (by first | omega | (simp; done) | (simp; omega)) (fun _ => by kernel_rfl) (fun _ => by kernel_rfl)) ?_; clear hA ac; intro ac hA
     refine st_rdF (v := Value.int .u8 y3) hA (by kernel_rfl) (by kernel_rfl) (by kernel_rfl) (by kernel_rfl) hW.cls (Rd.loadRow (b := b4) (i := o5 + k * 1) (xs := [Value.int .u8 y3]) (by kernel_rfl) (fun _ hw => row_ld ((hw.1).getG 1 rfl) hy3 (Fr.refl No _) (fun h => h) 0 1 (by kernel_rfl)) (by kernel_rfl)) ?_; clear hA ac; intro ac hA
     refine st_rdF (v := Value.int .u8 y3) hA (by kernel_rfl) (by kernel_rfl) (by kernel_rfl) (by kernel_rfl) hW.cls (Rd.pure fun _ => by kernel_rfl) ?_; clear hA ac; intro ac hA
     refine wpListIn_nil ?_
     refine thenN ?_
     refine wpIn_seq ?_
     refine wpIn_region_lit ?_
     refine st_rdF (v := Value.func (.yield l_) #[] #[]) hA (by kernel_rfl) (by kernel_rfl) (by kernel_rfl) (by kernel_rfl) hW.cls (Rd.pure fun _ => by kernel_rfl) ?_; clear hA ac; intro ac hA
     refine st_rdF (v := Value.int .u8 y3) hA (by kernel_rfl) (by kernel_rfl) (by kernel_rfl) (by kernel_rfl) hW.cls (Rd.pure fun _ => by kernel_rfl) ?_; clear hA ac; intro ac hA
     refine stF hA (by kernel_rfl) (by kernel_rfl) (by kernel_rfl) (by kernel_rfl) (RunsF.yield hR_ (l.take k) (y3) (fun _ => by kernel_rfl) hW 0 rfl (comes_atL hy3) (hJ) hW.fr (hW.may _ (List.mem_of_getElem? (i := 0) rfl)) ?_); clear hA ac hW; intro v6 r7 w8 hv6t hv6f hW ac hA
     refine st_rdF (v := Value.bool (!v6)) hA (by kernel_rfl) (by kernel_rfl) (by kernel_rfl) (by kernel_rfl) hW.cls (Rd.pure fun _ => by kernel_rfl) ?_; clear hA ac; intro ac hA
     refine wpListIn_nil ?_
     refine thenN ?_
     refine wpIn_cond_split (t := !v6) (hA.eval (by kernel_rfl)) (fun h9 => ?_) (fun h9 => ?_)
     · skip
       have h9 := not_t h9
       first
       | (exfalso; clear hA hW; omega)
       | (
         refine wpIn_ret ?_
         refine blkR ?_
         refine thenR ?_
         refine thenR ?_
         refine blkR ?_
         refine retF (.inl rfl) hA ?_
         refine leave0 (by rfl)  ?_
         clear hA
         exact ranDone hW 0 rfl (.inr ⟨_, hv6f h9⟩))
     · skip
       have h9 := not_f h9
       first
       | (exfalso; clear hA hW; omega)
       | (
         refine wpIn_skip ?_
         refine blkN ?_
         refine thenN ?_
         refine wpIn_region_lit ?_
         refine st_rdF (v := Value.int .i64 ((k + 1 : Nat) : Int)) hA (by kernel_rfl) (by kernel_rfl) (by kernel_rfl) (by kernel_rfl) hW.cls (Rd.pureE (v0 := Value.int .i64 (IntKind.i64.wrap ((((k : Nat) : Int) : Int) + 1))) (fun _ => by kernel_rfl) (congrArg (Value.int .i64) ((w_i64 (x := (((k : Nat) : Int) : Int) + 1) (by omega) (by omega)).trans (by omega)))) ?_; clear hA ac; intro ac hA
         refine st_rdF (v := Value.int .i64 ((k + 1 : Nat) : Int)) hA (by kernel_rfl) (by kernel_rfl) (by kernel_rfl) (by kernel_rfl) hW.cls (Rd.pure fun _ => by kernel_rfl) ?_; clear hA ac; intro ac hA
         refine wpListIn_nil ?_
         refine thenN ?_
         have hJn := hv6t h9; rw [← tk_snoc hy3] at hJn
         exact ⟨l.length - (k + 1), by omega, k + 1, r7, rfl, by omega, by exact hJn, hA.sub ⟨⟨by kernel_rfl, by kernel_rfl⟩, ⟨by kernel_rfl, by kernel_rfl⟩, ⟨by kernel_rfl, by kernel_rfl⟩, ⟨by kernel_rfl, by kernel_rfl⟩, trivial⟩, (hW.pick [0] (by decide) rfl).pickG [0, 1] rfl⟩))
 · skip
   have h2 := of_decide_eq_false h2
   first
   | (exfalso; clear hA hW; omega)
   | (
     refine wpIn_exit ?_
     refine thenX ?_
     refine thenX ?_
     refine blkX ?_
     refine retF (.inr rfl) hA ?_
     refine leave0 (by rfl)  ?_
     clear hA
     rw [List.take_of_length_le (by omega)] at hJ; exact ranDone hW 0 rfl (.inl ⟨_, rfl, hJ⟩))

set_option maxRecDepth 100000 in
theorem e_values_u8 (A_l : Option Addr) (c_l : Nat) (l : List Int) (w : World) (hr_l : RowAt w A_l 1 enB6 l) (hc_l : l.length ≤ c_l) (hl : l.length ≤ 1000000) : Calls Try.prog 61 #[Value.slice A_l l.length c_l] w (fun e w' => ∃ (lb : Array Value) (g : Res), e = .returned (Value.func (.func 65) #[] lb) ∧ Iter Try.prog 65 lb (fun x_ : Int => #[Value.int .u8 x_]) (· = l) [g] ∧ g.from_ [roR A_l 1 enB6 l] w w' ∧ Fr No w w') := by
 have _hu := hc_l; have _hv := hr_l; clear _hu _hv
 have _hu := hl; clear _hu
 refine enter_E 4 Try.func61 rfl rfl (by kernel_rfl) (L := [(0, Value.slice A_l l.length c_l)]) (by kernel_rfl) ?_
 intro ac hA
 have hW := Ws.start w No
 have hW := hW.arg hr_l
 refine wp_seq ?_
 refine wp_region_lit ?_
 refine st hA (by kernel_rfl) (by kernel_rfl) (by kernel_rfl) (Runs.cells (fun b => Value.pointer (some ⟨b, 0, none⟩)) #[Value.slice A_l l.length c_l] 59 (fun _ => by kernel_rfl) hW ?_); clear hA ac hW; intro b1 w2 hW hb1 hfw2 ac hA
 refine st_rd (v := Value.nilFunc) hA (by kernel_rfl) (by kernel_rfl) (by kernel_rfl) hW.cls (Rd.pure fun _ => by kernel_rfl) ?_; clear hA ac; intro ac hA
 refine wpList_nil ?_
 refine thenN ?_
 refine wp_seq ?_
 refine wp_region_lit ?_
 refine st_rd (v := Value.func (.func 65) #[] #[Value.pointer (some ⟨b1, 0, none⟩)]) hA (by kernel_rfl) (by kernel_rfl) (by kernel_rfl) hW.cls (Rd.pure fun _ => by kernel_rfl) ?_; clear hA ac; intro ac hA
 refine st_rd (v := Value.func (.func 65) #[] #[Value.pointer (some ⟨b1, 0, none⟩)]) hA (by kernel_rfl) (by kernel_rfl) (by kernel_rfl) hW.cls (Rd.pure fun _ => by kernel_rfl) ?_; clear hA ac; intro ac hA
 refine wpList_nil ?_
 refine thenN ?_
 refine wp_ret ?_
 refine ret1 (v := Value.func (.func 65) #[] #[Value.pointer (some ⟨b1, 0, none⟩)]) (by rfl) hA (Got.tmp hA (by kernel_rfl) (by kernel_rfl)) ?_
 clear hA
 exact ⟨_, _, rfl, iter_many (it_65 b1 _ _ l hc_l hl), from_many (froms_cons (hW.outOwn 0 rfl (fun _ h => h)) (froms_cons (hW.outArg 0 rfl (.head _)) froms_nil)), hW.fr⟩

set_option maxRecDepth 100000 in
theorem e_folded (s0 : Int) (A_l : Option Addr) (c_l : Nat) (l : List Int) (d : Nat) (f : Nat → Int) (sum : Int) (many : Int) (w : World) (hr_l : RowAt w A_l 1 enB6 l) (hc_l : l.length ≤ c_l) (ho_st : (DigR d f sum many).p w) (hl_st : ∀ x_ ∈ (DigR d f sum many).fp, x_ < w.heap.size) (hs0 : 0 ≤ s0 ∧ s0 ≤ 18446744073709551615) (hb : ∀ x ∈ l, 0 ≤ x ∧ x ≤ 255) (hl : l.length ≤ 1000000) (hT : ∀ q, q < 256 → f q = bitsN 8 (q : Int)) : Calls Try.prog 54 #[Value.int .u64 s0, Value.slice A_l l.length c_l, Value.func (.func 55) #[Value.pointer (some ⟨d, 0, none⟩)] #[]] w (fun e w' => e = .returned (Value.int .u64 (l.foldl byteStep s0)) ∧ Fr No w w') := by
 have _hu := hc_l; have _hv := hr_l; clear _hu _hv
 have _hu := ho_st; have _hv := hl_st; clear _hu _hv
 have _hu := hs0; clear _hu
 have _hu := hb; clear _hu
 have _hu := hl; clear _hu
 have _hu := hT; clear _hu
 refine enter_F 16 Try.func54 rfl rfl (by kernel_rfl) (L := [(0, Value.int .u64 s0), (1, Value.slice A_l l.length c_l), (2, Value.func (.func 55) #[Value.pointer (some ⟨d, 0, none⟩)] #[])]) (by kernel_rfl) ?_
 intro ac hA
 have hW := Ws.start w No
 have hW := hW.arg hr_l
 have hW := hW.addG (DigR d f sum many) ho_st hl_st (by simp)
 clear ho_st hl_st
 refine wpIn_seq ?_
 refine wpIn_region_lit ?_
 refine stF hA (by kernel_rfl) (by kernel_rfl) (by kernel_rfl) (by kernel_rfl) (RunsF.of (Runs.cells (fun b => Value.pointer (some ⟨b, 0, none⟩)) #[Value.int .u64 s0] 33 (fun _ => by kernel_rfl) hW ?_)); clear hA ac hW; intro b1 w2 hW hb1 hfw2 ac hA
 refine stF hA (by kernel_rfl) (by kernel_rfl) (by kernel_rfl) (by kernel_rfl) (RunsF.of (Runs.cells (fun b => Value.pointer (some ⟨b, 0, none⟩)) #[Value.func (.func 55) #[Value.pointer (some ⟨d, 0, none⟩)] #[]] 97 (fun _ => by kernel_rfl) hW ?_)); clear hA ac hW; intro b3 w4 hW hb3 hfw4 ac hA
 refine st_rdF (v := Value.int .u64 0) hA (by kernel_rfl) (by kernel_rfl) (by kernel_rfl) (by kernel_rfl) hW.cls (Rd.pure fun _ => by kernel_rfl) ?_; clear hA ac; intro ac hA
 refine wpListIn_nil ?_
 refine thenN ?_
 refine wpIn_seq ?_
 refine wpIn_seq ?_
 refine wpIn_region_lit ?_
 refine st_rdF (v := Value.slice A_l l.length c_l) hA (by kernel_rfl) (by kernel_rfl) (by kernel_rfl) (by kernel_rfl) hW.cls (Rd.pure fun _ => by kernel_rfl) ?_; clear hA ac; intro ac hA
 refine stF hA (by kernel_rfl) (by kernel_rfl) (by kernel_rfl) (by kernel_rfl) (RunsF.of (Runs.call (fun _ => by kernel_rfl) (e_values_u8 A_l c_l l w4 ((hW).getG 1 rfl) (by first | assumption | omega | (simp; omega) | simp) (by first | omega | exact hv.2 | exact hb _ (List.mem_of_getElem? ‹_›))) ?_))
 rintro _ w5 ⟨lb6, g7, rfl, hIg7, hfg7, hfw5⟩; refine ⟨_, rfl, ?_⟩; have hW0 := hW; have hW := hW0.call hfw5; have hW := hW0.addFromAt hW hfg7 (in_cons (in_at 1 rfl) in_nil); clear hW0 hA ac; intro ac hA
 refine wpListIn_nil ?_
 refine thenN ?_
 refine wpIn_block ?_
 refine wp_range (encs := (fun x_ : Int => #[Value.int .u8 x_])) (Sx := (· = l)) hA (by kernel_rfl) (by kernel_rfl) (enters_of Try.func65 (by kernel_rfl) rfl) (by kernel_rfl) (fun _ => rfl) hIg7 (List.forall_mem_singleton.2 (List.mem_of_getElem? (i := 0) rfl)) (fun pre_ H_ => ∃ k : Nat, ∃ v_ : Int, pre_ = l.take k ∧ k ≤ l.length ∧ (v_ = (l.take k).foldl byteStep s0 ∧ 0 ≤ v_ ∧ v_ ≤ 18446744073709551615) ∧ H_ = [Cel b1 #[Value.int .u64 v_] 33, Cel b3 #[Value.func (.func 55) #[Value.pointer (some ⟨d, 0, none⟩)] #[]] 97]) (fun _ _ _ => False) (H := [Cel b1 #[Value.int .u64 s0] 33, Cel b3 #[Value.func (.func 55) #[Value.pointer (some ⟨d, 0, none⟩)] #[]] 97]) (K := []) (hW.pick [1, 0] (by decide) rfl) ⟨0, s0, rfl, Nat.zero_le _, by exact ⟨rfl, hs0⟩, rfl⟩ ?_ ?_ ?_
 · skip
   clear hA ac hW; intro l_8 rd_8 bs_8 pre_ x_ Hk_ w9 T_8 ac hrd_8 hbs_8 hbr_8 hok_ hJ_ hA hW hB_8 hT_8
   obtain ⟨k, v_, rfl, hk_, hv, rfl⟩ := hJ_
   obtain ⟨y10, h_⟩ : ∃ y_, y_ = x_ := ⟨_, rfl⟩; subst h_; obtain ⟨hy10, hlty10, hsny10⟩ := comes_list hok_ hk_
   replace hA : Fm 16 [] [(0, Value.int .u64 s0), (1, Value.slice A_l l.length c_l), (2, Value.func (.func 55) #[Value.pointer (some ⟨d, 0, none⟩)] #[]), (3, Value.pointer (some ⟨b1, 0, none⟩)), (5, Value.pointer (some ⟨b3, 0, none⟩)), (6, Value.int .u64 0), (8, Value.slice A_l l.length c_l), (9, Value.func (.func 65) #[] lb6), (10, Value.int .u8 y10)] ac := hA.sub ⟨⟨by kernel_rfl, by kernel_rfl⟩, ⟨by kernel_rfl, by kernel_rfl⟩, ⟨by kernel_rfl, by kernel_rfl⟩, ⟨by kernel_rfl, by kernel_rfl⟩, ⟨by kernel_rfl, by kernel_rfl⟩, ⟨by kernel_rfl, by kernel_rfl⟩, ⟨by kernel_rfl, by kernel_rfl⟩, ⟨by kernel_rfl, by kernel_rfl⟩, ⟨by kernel_rfl, by kernel_rfl⟩, trivial⟩
   refine wpIn_region_lit ?_
   refine st_rdF (v := Value.int .u8 y10) hA (by kernel_rfl) (by kernel_rfl) (by kernel_rfl) (by kernel_rfl) hW.cls (Rd.pure fun _ => by kernel_rfl) ?_; clear hA ac; intro ac hA
   refine wpListIn_nil ?_
   refine thenN ?_
   refine begun (bs := bs_8) (H' := [bs_8, Cel b1 #[Value.int .u64 v_] 33, Cel b3 #[Value.func (.func 55) #[Value.pointer (some ⟨d, 0, none⟩)] #[]] 97]) hW 0 rfl (fun b hb => by rw [hbs_8] at hb; rw [hrd_8]; exact hb) rfl ?_; clear hW; intro w11 hW
   refine wpIn_block ?_
   refine wpIn_region_lit ?_
   refine st_rdF (v := Value.func (.func 55) #[Value.pointer (some ⟨d, 0, none⟩)] #[]) hA (by kernel_rfl) (by kernel_rfl) (by kernel_rfl) (by kernel_rfl) hW.cls (Rd.load (b := b3) (i := 0) (by kernel_rfl) (fun _ hw => (hw.1).cel 2 rfl) (by kernel_rfl)) ?_; clear hA ac; intro ac hA
   refine st_rdF (v := Value.int .u64 v_) hA (by kernel_rfl) (by kernel_rfl) (by kernel_rfl) (by kernel_rfl) hW.cls (Rd.load (b := b1) (i := 0) (by kernel_rfl) (fun _ hw => (hw.1).cel 1 rfl) (by kernel_rfl)) ?_; clear hA ac; intro ac hA
   refine st_rdF (v := Value.int .u8 y10) hA (by kernel_rfl) (by kernel_rfl) (by kernel_rfl) (by kernel_rfl) hW.cls (Rd.pure fun _ => by kernel_rfl) ?_; clear hA ac; intro ac hA
   refine stF hA (by kernel_rfl) (by kernel_rfl) (by kernel_rfl) (by kernel_rfl) (RunsF.of (Runs.callN (v := Value.int .u64 (bits .xor .u64 (f (bits .xor .u8 ((v_) % 256) (y10)).toNat) ((v_) / 256))) (fun _ => by kernel_rfl) hW (e_dstep d f sum many (v_) (y10) w11 ((hW).getG 1 rfl) ((hW).glt _ (List.mem_of_getElem? (i := 1) rfl)) (by first | omega | exact hv.2 | exact hb _ (List.mem_of_getElem? ‹_›)) (by first | omega | exact hv.2 | exact hb _ (List.mem_of_getElem? ‹_›))) ?_)); clear hA ac hW; intro w12 hW hfw12 ac hA
   refine stF hA (by kernel_rfl) (by kernel_rfl) (by kernel_rfl) (by kernel_rfl) (RunsF.of (Runs.store (v := Value.int .u64 (bits .xor .u64 (f (bits .xor .u8 ((v_) % 256) (y10)).toNat) ((v_) / 256))) (b := b1) (j := 0) (n := 1) (cs' := #[Value.int .u64 (bits .xor .u64 (f (bits .xor .u8 ((v_) % 256) (y10)).toNat) ((v_) / 256))]) (H' := [bs_8, Cel b1 #[Value.int .u64 (bits .xor .u64 (f (bits .xor .u8 ((v_) % 256) (y10)).toNat) ((v_) / 256))] 33, Cel b3 #[Value.func (.func 55) #[Value.pointer (some ⟨d, 0, none⟩)] #[]] 97]) (by kernel_rfl) (by kernel_rfl) (by kernel_rfl) (by kernel_rfl) (by kernel_rfl) hW 1 (by rfl) (Nat.le_of_ble_eq_true (by kernel_rfl)) (by kernel_rfl) (by rfl) ?_)); clear hA ac hW; intro w13 hW ac hA
   refine wpListIn_nil ?_
   refine blkN ?_
   have hsi_ := step_is hT hv.2 (hb _ (List.mem_of_getElem? hy10))
   exact ⟨_, ⟨k + 1, (bits .xor .u64 (f (bits .xor .u8 ((v_) % 256) (y10)).toNat) ((v_) / 256)), hsny10, hlty10, by rw [hsi_]; refine ⟨?_, ?_⟩; (rw [foldl_snoc hy10, ← hv.1]); (rw [← hsi_]; exact bits_range _ _ _), rfl⟩, (hW.pick [0, 1, 2] (by decide) rfl).pickG [0, 1, 2] rfl⟩
 · skip
   clear hA ac hW; intro D14 xs_ Hk_ w15 ac hS_ hJ_ hA hW
   obtain ⟨k, v_, hpre_, hk_, hv, rfl⟩ := hJ_
   have hke : k = l.length := by have := congrArg List.length (hS_.symm.trans hpre_); simp at this; omega
   clear hpre_ hS_
   replace hW : Ws w No [Cel b1 #[Value.int .u64 v_] 33, Cel b3 #[Value.func (.func 55) #[Value.pointer (some ⟨d, 0, none⟩)] #[]] 97, DefR D14] [g7, DigR d f sum many, roR A_l 1 enB6 l] w15 := hW
   refine blkN ?_
   refine thenN ?_
   refine wpIn_seq ?_
   refine wpIn_region_lit ?_
   refine st_rdF (v := Value.int .u64 v_) hA (by kernel_rfl) (by kernel_rfl) (by kernel_rfl) (by kernel_rfl) hW.cls (Rd.load (b := b1) (i := 0) (by kernel_rfl) (fun _ hw => (hw.1).cel 0 rfl) (by kernel_rfl)) ?_; clear hA ac; intro ac hA
   refine st_rdF (v := Value.int .u64 v_) hA (by kernel_rfl) (by kernel_rfl) (by kernel_rfl) (by kernel_rfl) hW.cls (Rd.pure fun _ => by kernel_rfl) ?_; clear hA ac; intro ac hA
   refine wpListIn_nil ?_
   refine thenN ?_
   refine wpIn_ret ?_
   refine retF (.inl rfl) hA ?_
   refine leaveD (H' := [Cel b1 #[Value.int .u64 v_] 33, Cel b3 #[Value.func (.func 55) #[Value.pointer (some ⟨d, 0, none⟩)] #[]] 97]) hW 2 rfl rfl ?_; clear hW; intro w16 hW
   refine leave1 (v := Value.int .u64 v_) (by rfl) (GotF.tmp hA (by kernel_rfl) (by kernel_rfl)) ?_
   clear hA
   rw [List.take_of_length_le (by omega)] at hv; exact ⟨retv (by rw [← hv.1]), hW.fr⟩
 · skip
   clear hA ac hW; intro D17 c_ pre_ Hk_ w18 ac hJ_ hA hW
   exact hJ_.elim

end Go.Proofs.Ytcokpdlmahlpnaa.L
