/- Contracts, walked by program over the engine's laws. -/
import Derived.Test.YtcgcippmbeileaaProg
import Derived.Test.YtcgcippmbeileaaT6
import Derived.Sort.WalkA14
namespace Go.Proofs.Ytcgcippmbeileaa.L
open Go.RowKit

theorem e_npo (n : Nat) (w : World) (hn : n < 1000000) : Calls Try.prog 69 #[.int .i64 ((n : Nat) : Int)] w fun e w' => e = .returned (.int .u64 ((1 <<< Sort.bitsLen n : Nat) : Int)) ∧ w = w' := (AnyF.nextPowerOfTwo Try.npo n (by omega) w).mono fun e w' ⟨h1, h2⟩ => ⟨h1, h2.symm⟩
theorem e_blen (n : Nat) (w : World) (hn : n < 1000000) : Calls Try.prog 52 #[.int .u64 ((n : Nat) : Int)] w fun e w' => e = .returned (.int .i64 ((Sort.bitsLen n : Nat) : Int)) ∧ w = w' := by
  have h := Any.bits_Len (SlLaysF0.n15.bits Try.blen) (n : Int) w (by omega) (by omega)
  rw [Int.toNat_natCast, bitLen_eq _ (by omega)] at h
  exact h.mono fun e w' ⟨h1, h2⟩ => ⟨h1, h2.symm⟩
theorem npo_rng {n : Nat} (h : 0 < n) : 1 ≤ 1 <<< Sort.bitsLen n ∧ 1 <<< Sort.bitsLen n ≤ 2 * n := by
  rw [Nat.one_shiftLeft]; exact ⟨Nat.one_le_two_pow, Sort.two_pow_bitsLen_le h⟩
/-- So many rounds, from an index on. -/
def bpN (a L M : Nat) : Nat → Nat → UInt64 × Array Int → Array Int
  | 0, _, st => st.2
  | r + 1, ix, st => bpN a L M r (ix + 1) (Sort.breakStep a L M st ix)
theorem bp_start {a b : Nat} {d : List Int} (h : b - a ≥ 8) : bpN a (b - a) (1 <<< Sort.bitsLen (b - a)) 3 (a + (b - a) / 4 * 2 - 1) (UInt64.ofNat (b - a), d.toArray) = Sort.breakPatterns d.toArray a b := by
  unfold Sort.breakPatterns; simp only []; rw [if_pos h]; rfl
theorem bp_step {a L M r ix ot oo : Nat} {u : UInt64} {d : List Int} {x y : Int} (ho : ot = (Sort.xorNext u).toNat &&& (M - 1)) (h2 : oo = if ot ≥ L then ot - L else ot) (hx : d[ix]? = some x) (hy : d[a + oo]? = some y) : bpN a L M (r + 1) ix (u, d.toArray) = bpN a L M r (ix + 1) (Sort.xorNext u, ((d.set ix y).set (a + oo) x).toArray) := by
  rw [bpN, arr_swp hx hy, h2, ho]; rfl
set_option maxRecDepth 100000 in
theorem e_break (A_l : Option Addr) (n_l c_l : Nat) (l : List Int) (a : Nat) (b : Nat) (w : World) (ho_l : (srtR A_l n_l c_l l).p w) (hl_l : ∀ x_ ∈ (srtR A_l n_l c_l l).fp, x_ < w.heap.size) (hb : a + 8 ≤ b ∧ b ≤ l.length ∧ b < a + 50) (hsz : l.length ≤ 100000) : Calls Try.prog 57 #[Value.slice A_l n_l c_l, Value.int .i64 ((a : Nat) : Int), Value.int .i64 ((b : Nat) : Int)] w (fun e w' => ∃ l' : List Int, e = .returned (Value.tuple #[]) ∧ (l'.toArray = Sort.breakPatterns l.toArray a b) ∧ (l'.length = l.length) ∧ Upd (srtR A_l n_l c_l l) (srtR A_l n_l c_l l') w w') := by
 have _hu := ho_l; have _hv := hl_l; clear _hu _hv
 have _hu := hb; clear _hu
 have _hu := hsz; clear _hu
 refine enter_E 65 Try.func57 rfl rfl (by kernel_rfl) (L := [(0, Value.slice A_l n_l c_l), (1, Value.int .i64 ((a : Nat) : Int)), (2, Value.int .i64 ((b : Nat) : Int))]) (by kernel_rfl) ?_
 intro ac hA
 have hW : Ws w (· ∈ (srtR A_l n_l c_l l).fp) [rowR 35 1 enU4 (Value.slice A_l n_l c_l) l] [] w := objW ho_l hl_l
 clear ho_l hl_l
 have hn_l : n_l = l.length := rowR_n (hW.get 0 rfl)
 refine wp_seq ?_
 refine wp_region_lit ?_
 refine st_p (Value.int .i64 ((b : Nat) : Int)) hA ?_; clear hA ac; intro ac hA
 refine st_p (Value.int .i64 ((a : Nat) : Int)) hA ?_; clear hA ac; intro ac hA
 refine st_q (Value.int .i64 ((b - a : Nat) : Int)) hA hW.cls (Rd.pureE (v0 := Value.int .i64 (IntKind.i64.wrap ((((b : Nat) : Int) : Int) - ((a : Nat) : Int)))) (fun _ => by kernel_rfl) (congrArg (Value.int .i64) ((w_i64 (x := (((b : Nat) : Int) : Int) - ((a : Nat) : Int)) (by omega) (by omega)).trans (by omega)))) ?_; clear hA ac; intro ac hA
 refine st_p (Value.int .i64 ((b - a : Nat) : Int)) hA ?_; clear hA ac; intro ac hA
 refine wpList_nil ?_
 refine thenN ?_
 refine wp_seq ?_
 refine wp_region_lit ?_
 refine st_p (Value.int .i64 ((b - a : Nat) : Int)) hA ?_; clear hA ac; intro ac hA
 refine st_p (Value.bool (decide ((((b - a : Nat) : Int) : Int) ≥ (8 : Int)))) hA ?_; clear hA ac; intro ac hA
 refine wpList_nil ?_
 refine thenN ?_
 refine wp_cond_split (t := decide ((((b - a : Nat) : Int) : Int) ≥ (8 : Int))) (hA.eval (by kernel_rfl)) (fun h1 => ?_) (fun h1 => ?_)
 · skip
   have h1 := of_decide_eq_true h1
   first
   | (exfalso; clear hA hW; omega)
   | (
     refine wp_seq ?_
     refine wp_region_lit ?_
     refine st_p (Value.int .i64 ((b - a : Nat) : Int)) hA ?_; clear hA ac; intro ac hA
     refine st_q (Value.int .u64 ((b - a : Nat) : Int)) hA hW.cls (Rd.pureE (v0 := Value.int .u64 (IntKind.u64.wrap (((b - a : Nat) : Int)))) (fun _ => by kernel_rfl) (congrArg (Value.int .u64) (w_u64 (x := ((b - a : Nat) : Int)) (by omega) (by omega)))) ?_; clear hA ac; intro ac hA
     refine st_s hA (Runs.cells (fun b => Value.pointer (some ⟨b, 0, none⟩)) #[Value.int .u64 0] 128 (fun _ => by kernel_rfl) hW ?_); clear hA ac hW; intro b2 w3 hW hb2 hfw3 ac hA
     refine st_s hA (Runs.store (v := Value.int .u64 ((b - a : Nat) : Int)) (b := b2) (j := 0) (n := 1) (cs' := #[Value.int .u64 ((b - a : Nat) : Int)]) (H' := [Cel b2 #[Value.int .u64 ((b - a : Nat) : Int)] 128, rowR 35 1 enU4 (Value.slice A_l n_l c_l) l]) (by kernel_rfl) (by kernel_rfl) (by kernel_rfl) (by kernel_rfl) (by kernel_rfl) hW 0 (by rfl) (Nat.le_of_ble_eq_true (by kernel_rfl)) (by kernel_rfl) (by rfl) ?_); clear hA ac hW; intro w4 hW ac hA
     refine wpList_nil ?_
     refine thenN ?_
     refine wp_seq ?_
     obtain ⟨u0, hu0⟩ : ∃ u_ : UInt64, u_ = UInt64.ofNat (b - a) := ⟨_, rfl⟩; have hu1_ : (b - a : Nat) = u0.toNat := (by rw [hu0, UInt64.toNat_ofNat']; omega); rw [show (((b - a : Nat) : Int) : Int) = ((u0.toNat : Nat) : Int) from by rw [hu1_]] at hW
     have hW : Ws w (· ∈ (srtR A_l n_l c_l l).fp) [RnR b2 u0, rowR 35 1 enU4 (Value.slice A_l n_l c_l) l] [] w4 := Ws.pack (L := [Cel b2 #[Value.int .u64 ((u0.toNat : Nat) : Int)] 128]) (hW.pick [0, 1] (by decide) rfl)
     refine wp_region_lit ?_
     refine st_p (Value.int .i64 ((b - a : Nat) : Int)) hA ?_; clear hA ac; intro ac hA
     refine st_s hA (Runs.callS (v := Value.int .u64 ((1 <<< Sort.bitsLen (b - a) : Nat) : Int)) (fun _ => by kernel_rfl) (e_npo (b - a) w4 (by first | omega | (simp; done))) ?_); clear hA ac; intro  ac hA
     refine st_p (Value.int .u64 ((1 <<< Sort.bitsLen (b - a) : Nat) : Int)) hA ?_; clear hA ac; intro ac hA
     refine wpList_nil ?_
     refine thenN ?_
     refine wp_seq ?_
     obtain ⟨M, hM⟩ : ∃ q_ : Nat, q_ = 1 <<< Sort.bitsLen (b - a) := ⟨_, rfl⟩
     have hM2 := npo_rng (n := b - a) (by omega)
     rw [← hM] at hA
     rw [← hM] at hM2
     refine wp_region_lit ?_
     refine st_p (Value.int .i64 ((a : Nat) : Int)) hA ?_; clear hA ac; intro ac hA
     refine st_p (Value.int .i64 ((b - a : Nat) : Int)) hA ?_; clear hA ac; intro ac hA
     refine st_q (Value.int .i64 (((b - a) / 4 : Nat) : Int)) hA hW.cls (Rd.pureE (v0 := Value.int .i64 (IntKind.i64.wrap (Int.tdiv (((b - a : Nat) : Int) : Int) 4))) (fun _ => by kernel_rfl) (congrArg (Value.int .i64) ((congrArg IntKind.i64.wrap (quo_ (x := ((b - a : Nat) : Int)) (by omega))).trans (w_i64 (by omega) (by omega))))) ?_; clear hA ac; intro ac hA
     refine st_q (Value.int .i64 ((((b - a) / 4) * 2 : Nat) : Int)) hA hW.cls (Rd.pureE (v0 := Value.int .i64 (IntKind.i64.wrap (((((b - a) / 4 : Nat) : Int) : Int) * 2))) (fun _ => by kernel_rfl) (congrArg (Value.int .i64) ((w_i64 (x := ((((b - a) / 4 : Nat) : Int) : Int) * 2) (by omega) (by omega)).trans (by omega)))) ?_; clear hA ac; intro ac hA
     refine st_q (Value.int .i64 ((a + (((b - a) / 4) * 2) : Nat) : Int)) hA hW.cls (Rd.pureE (v0 := Value.int .i64 (IntKind.i64.wrap ((((a : Nat) : Int) : Int) + ((((b - a) / 4) * 2 : Nat) : Int)))) (fun _ => by kernel_rfl) (congrArg (Value.int .i64) ((w_i64 (x := (((a : Nat) : Int) : Int) + ((((b - a) / 4) * 2 : Nat) : Int)) (by omega) (by omega)).trans (by omega)))) ?_; clear hA ac; intro ac hA
     refine st_q (Value.int .i64 (((a + (((b - a) / 4) * 2)) - 1 : Nat) : Int)) hA hW.cls (Rd.pureE (v0 := Value.int .i64 (IntKind.i64.wrap ((((a + (((b - a) / 4) * 2) : Nat) : Int) : Int) - 1))) (fun _ => by kernel_rfl) (congrArg (Value.int .i64) ((w_i64 (x := (((a + (((b - a) / 4) * 2) : Nat) : Int) : Int) - 1) (by omega) (by omega)).trans (by omega)))) ?_; clear hA ac; intro ac hA
     refine st_p (Value.int .i64 (((a + (((b - a) / 4) * 2)) - 1 : Nat) : Int)) hA ?_; clear hA ac; intro ac hA
     refine wpList_nil ?_
     refine thenN ?_
     refine wp_block ?_
     refine wp_loop_m (fun m_ ac_ wl_ => ∃ t : Nat, ∃ ix : Nat, ∃ u : UInt64, ∃ d : List Int, m_ = 3 - t ∧ (t ≤ 3 ∧ ix = a + (b - a) / 4 * 2 - 1 + t) ∧ (bpN a (b - a) M (3 - t) ix (u, d.toArray) = Sort.breakPatterns l.toArray a b) ∧ (d.length = l.length) ∧ Fm 65 [] [(0, Value.slice A_l n_l c_l), (1, Value.int .i64 ((a : Nat) : Int)), (2, Value.int .i64 ((b : Nat) : Int)), (6, Value.int .i64 ((b - a : Nat) : Int)), (7, Value.pointer (some ⟨b2, 0, none⟩)), (8, Value.int .u64 ((M : Nat) : Int)), (9, Value.int .i64 ((ix : Nat) : Int))] ac_ ∧ Ws w (· ∈ (srtR A_l n_l c_l l).fp) [RnR b2 u, rowR 35 1 enU4 (Value.slice A_l n_l c_l) d] [] wl_) _ ⟨0, (a + (((b - a) / 4) * 2)) - 1, u0, l, rfl, by omega, by rw [hM, hu0]; exact bp_start (by omega), by rfl, hA.sub ⟨⟨by kernel_rfl, by kernel_rfl⟩, ⟨by kernel_rfl, by kernel_rfl⟩, ⟨by kernel_rfl, by kernel_rfl⟩, ⟨by kernel_rfl, by kernel_rfl⟩, ⟨by kernel_rfl, by kernel_rfl⟩, ⟨by kernel_rfl, by kernel_rfl⟩, ⟨by kernel_rfl, by kernel_rfl⟩, trivial⟩, (hW.pick [0, 1] (by decide) rfl).pickG [] rfl⟩ ?_
     clear hA ac hW; rintro m_ ac w5 ⟨t, ix, u, d, rfl, ht, hs, hl, hA, hW⟩
     refine wp_seq ?_
     refine wp_seq ?_
     refine wp_region_lit ?_
     refine st_p (Value.int .i64 ((ix : Nat) : Int)) hA ?_; clear hA ac; intro ac hA
     refine st_p (Value.int .i64 ((a : Nat) : Int)) hA ?_; clear hA ac; intro ac hA
     refine st_p (Value.int .i64 ((b - a : Nat) : Int)) hA ?_; clear hA ac; intro ac hA
     refine st_q (Value.int .i64 (((b - a) / 4 : Nat) : Int)) hA hW.cls (Rd.pureE (v0 := Value.int .i64 (IntKind.i64.wrap (Int.tdiv (((b - a : Nat) : Int) : Int) 4))) (fun _ => by kernel_rfl) (congrArg (Value.int .i64) ((congrArg IntKind.i64.wrap (quo_ (x := ((b - a : Nat) : Int)) (by omega))).trans (w_i64 (by omega) (by omega))))) ?_; clear hA ac; intro ac hA
     refine st_q (Value.int .i64 ((((b - a) / 4) * 2 : Nat) : Int)) hA hW.cls (Rd.pureE (v0 := Value.int .i64 (IntKind.i64.wrap (((((b - a) / 4 : Nat) : Int) : Int) * 2))) (fun _ => by kernel_rfl) (congrArg (Value.int .i64) ((w_i64 (x := ((((b - a) / 4 : Nat) : Int) : Int) * 2) (by omega) (by omega)).trans (by omega)))) ?_; clear hA ac; intro ac hA
     refine st_q (Value.int .i64 ((a + (((b - a) / 4) * 2) : Nat) : Int)) hA hW.cls (Rd.pureE (v0 := Value.int .i64 (IntKind.i64.wrap ((((a : Nat) : Int) : Int) + ((((b - a) / 4) * 2 : Nat) : Int)))) (fun _ => by kernel_rfl) (congrArg (Value.int .i64) ((w_i64 (x := (((a : Nat) : Int) : Int) + ((((b - a) / 4) * 2 : Nat) : Int)) (by omega) (by omega)).trans (by omega)))) ?_; clear hA ac; intro ac hA
     refine st_q (Value.int .i64 (((a + (((b - a) / 4) * 2)) + 1 : Nat) : Int)) hA hW.cls (Rd.pureE (v0 := Value.int .i64 (IntKind.i64.wrap ((((a + (((b - a) / 4) * 2) : Nat) : Int) : Int) + 1))) (fun _ => by kernel_rfl) (congrArg (Value.int .i64) ((w_i64 (x := (((a + (((b - a) / 4) * 2) : Nat) : Int) : Int) + 1) (by omega) (by omega)).trans (by omega)))) ?_; clear hA ac; intro ac hA
     refine st_p (Value.bool (decide ((((ix : Nat) : Int) : Int) ≤ ((((a + (((b - a) / 4) * 2)) + 1 : Nat) : Int) : Int)))) hA ?_; clear hA ac; intro ac hA
     refine wpList_nil ?_
     refine thenN ?_
     refine wp_cond_split (t := decide ((((ix : Nat) : Int) : Int) ≤ ((((a + (((b - a) / 4) * 2)) + 1 : Nat) : Int) : Int))) (hA.eval (by kernel_rfl)) (fun h6 => ?_) (fun h6 => ?_)
     · skip
       have h6 := of_decide_eq_true h6
       first
       | (exfalso; clear hA hW; omega)
       | (
         refine wp_skip ?_
         refine thenN ?_
         refine wp_seq ?_
         refine wp_block ?_
         refine wp_seq ?_
         have hand_ := and_le (X := (Sort.xorNext u).toNat) (Y := M - 1) (by omega) (UInt64.toNat_lt _)
         refine wp_region_lit ?_
         refine st_s hA (Runs.call (fun _ => by kernel_rfl) (e_next b2 u w5 ((hW).get 0 rfl) ((hW).lt _ (List.mem_of_getElem? (i := 0) rfl))) ?_)
         rintro _ w7 ⟨rfl, hu_⟩; refine ⟨_, rfl, ?_⟩; replace hW := hW.upd (H' := [RnR b2 (Sort.xorNext u), rowR 35 1 enU4 (Value.slice A_l n_l c_l) d]) 0 rfl hu_ rfl; clear hA ac; intro ac hA
         refine st_p (Value.int .u64 ((M : Nat) : Int)) hA ?_; clear hA ac; intro ac hA
         refine st_q (Value.int .u64 ((M - 1 : Nat) : Int)) hA hW.cls (Rd.pureE (v0 := Value.int .u64 (IntKind.u64.wrap ((((M : Nat) : Int) : Int) - 1))) (fun _ => by kernel_rfl) (congrArg (Value.int .u64) ((w_u64 (x := (((M : Nat) : Int) : Int) - 1) (by omega) (by omega)).trans (by omega)))) ?_; clear hA ac; intro ac hA
         refine st_p (Value.int .u64 (bits .and .u64 ((((Sort.xorNext u).toNat : Nat) : Int) : Int) (((M - 1 : Nat) : Int) : Int))) hA ?_; clear hA ac; intro ac hA
         refine st_q (Value.int .i64 (((Sort.xorNext u).toNat &&& (M - 1) : Nat) : Int)) hA hW.cls (Rd.pureE (v0 := Value.int .i64 (IntKind.i64.wrap ((bits .and .u64 ((((Sort.xorNext u).toNat : Nat) : Int) : Int) (((M - 1 : Nat) : Int) : Int))))) (fun _ => by kernel_rfl) (congrArg (Value.int .i64) (by rw [hand_.1]; exact w_i64 (by have := hand_.2; omega) (by have := hand_.2; omega)))) ?_; clear hA ac; intro ac hA
         refine st_p (Value.int .i64 (((Sort.xorNext u).toNat &&& (M - 1) : Nat) : Int)) hA ?_; clear hA ac; intro ac hA
         refine wpList_nil ?_
         refine thenN ?_
         refine wp_seq ?_
         refine wp_seq ?_
         obtain ⟨ot, hot⟩ : ∃ q_ : Nat, q_ = (Sort.xorNext u).toNat &&& (M - 1) := ⟨_, rfl⟩
         rw [← hot] at hA
         have hot2_ : ot ≤ M - 1 := by rw [hot]; exact hand_.2
         refine wp_region_lit ?_
         refine st_p (Value.int .i64 ((ot : Nat) : Int)) hA ?_; clear hA ac; intro ac hA
         refine st_p (Value.int .i64 ((b - a : Nat) : Int)) hA ?_; clear hA ac; intro ac hA
         refine st_p (Value.bool (decide ((((ot : Nat) : Int) : Int) ≥ (((b - a : Nat) : Int) : Int)))) hA ?_; clear hA ac; intro ac hA
         refine wpList_nil ?_
         refine thenN ?_
         refine wp_cond_split (t := decide ((((ot : Nat) : Int) : Int) ≥ (((b - a : Nat) : Int) : Int))) (hA.eval (by kernel_rfl)) (fun h8 => ?_) (fun h8 => ?_)
         · skip
           have h8 := of_decide_eq_true h8
           first
           | (exfalso; clear hA hW; omega)
           | (
             refine wp_region_lit ?_
             refine st_p (Value.int .i64 ((ot : Nat) : Int)) hA ?_; clear hA ac; intro ac hA
             refine st_p (Value.int .i64 ((b - a : Nat) : Int)) hA ?_; clear hA ac; intro ac hA
             refine st_q (Value.int .i64 ((ot - (b - a) : Nat) : Int)) hA hW.cls (Rd.pureE (v0 := Value.int .i64 (IntKind.i64.wrap ((((ot : Nat) : Int) : Int) - ((b - a : Nat) : Int)))) (fun _ => by kernel_rfl) (congrArg (Value.int .i64) ((w_i64 (x := (((ot : Nat) : Int) : Int) - ((b - a : Nat) : Int)) (by omega) (by omega)).trans (by omega)))) ?_; clear hA ac; intro ac hA
             refine st_p (Value.int .i64 ((ot - (b - a) : Nat) : Int)) hA ?_; clear hA ac; intro ac hA
             refine wpList_nil ?_
             refine thenN ?_
             obtain ⟨y9, hy9⟩ : ∃ y, d[ix]? = some y := ⟨_, List.getElem?_eq_getElem (by omega)⟩
             obtain ⟨b10, o11, rfl, hbb10⟩ := row_some (rowR_at ((hW).get 1 rfl) elt_U4.len) hy9
             obtain ⟨y12, hy12⟩ : ∃ y, d[a + (ot - (b - a))]? = some y := ⟨_, List.getElem?_eq_getElem (by omega)⟩
             refine wp_cut (fun ac_ wl_ => Fm 65 [] [(0, Value.slice (some ⟨b10, o11, none⟩) n_l c_l), (1, Value.int .i64 ((a : Nat) : Int)), (2, Value.int .i64 ((b : Nat) : Int)), (6, Value.int .i64 ((b - a : Nat) : Int)), (7, Value.pointer (some ⟨b2, 0, none⟩)), (8, Value.int .u64 ((M : Nat) : Int)), (9, Value.int .i64 ((ix : Nat) : Int)), (10, Value.int .i64 ((ot - (b - a) : Nat) : Int)), (26, Value.int .i64 ((ix : Nat) : Int)), (27, Value.int .i64 ((a : Nat) : Int)), (28, Value.int .i64 ((b - a : Nat) : Int)), (29, Value.int .i64 (((b - a) / 4 : Nat) : Int)), (30, Value.int .i64 ((((b - a) / 4) * 2 : Nat) : Int)), (31, Value.int .i64 ((a + (((b - a) / 4) * 2) : Nat) : Int)), (32, Value.int .i64 (((a + (((b - a) / 4) * 2)) + 1 : Nat) : Int)), (33, Value.bool (decide ((((ix : Nat) : Int) : Int) ≤ ((((a + (((b - a) / 4) * 2)) + 1 : Nat) : Int) : Int)))), (36, Value.int .u64 (((Sort.xorNext u).toNat : Nat) : Int)), (37, Value.int .u64 ((M : Nat) : Int)), (38, Value.int .u64 ((M - 1 : Nat) : Int)), (39, Value.int .u64 (bits .and .u64 ((((Sort.xorNext u).toNat : Nat) : Int) : Int) (((M - 1 : Nat) : Int) : Int))), (40, Value.int .i64 ((ot : Nat) : Int)), (41, Value.int .i64 ((ot : Nat) : Int)), (42, Value.int .i64 ((b - a : Nat) : Int)), (43, Value.bool (decide ((((ot : Nat) : Int) : Int) ≥ (((b - a : Nat) : Int) : Int)))), (44, Value.int .i64 ((ot : Nat) : Int)), (45, Value.int .i64 ((b - a : Nat) : Int)), (46, Value.int .i64 ((ot - (b - a) : Nat) : Int))] ac_ ∧ Ws w (· ∈ (srtR (some ⟨b10, o11, none⟩) n_l c_l l).fp) [RnR b2 (Sort.xorNext u), rowR 35 1 enU4 (Value.slice (some ⟨b10, o11, none⟩) n_l c_l) (List.set (List.set d ix (y12 : Int)) (a + (ot - (b - a))) (y9 : Int))] [] wl_) ?_ ?_
             · refine sr_region (m := 20) (C := Ws w (· ∈ (srtR (some ⟨b10, o11, none⟩) n_l c_l l).fp) [RnR b2 (Sort.xorNext u), rowR 35 1 enU4 (Value.slice (some ⟨b10, o11, none⟩) n_l c_l) d] []) (fun i => [11, 15].contains i) (fun i => [11, 15].contains i) (fun i => [0, 1, 2, 3, 4, 5, 6, 7, 8, 9, 10, 12, 13, 14, 16, 18].contains i) (by kernel_rfl) (by kernel_rfl) (by kernel_rfl) (by kernel_rfl) hW ?_; clear hW; intro w13 hW hfw13 hR; have hC : Ws w (· ∈ (srtR (some ⟨b10, o11, none⟩) n_l c_l l).fp) [RnR b2 (Sort.xorNext u), rowR 35 1 enU4 (Value.slice (some ⟨b10, o11, none⟩) n_l c_l) d] [] w13 := hW.pick [0, 1] (by decide) rfl
               refine sr_p 0 (Value.slice (some ⟨b10, o11, none⟩) n_l c_l) hR rfl hA ?_; clear hA ac; intro ac hA
               refine sr_p 1 (Value.int .i64 ((ix : Nat) : Int)) hR rfl hA ?_; clear hA ac; intro ac hA
               refine sr_p 2 (Value.slice (some ⟨b10, o11, none⟩) n_l c_l) hR rfl hA ?_; clear hA ac; intro ac hA
               refine sr_p 3 (Value.int .i64 ((a : Nat) : Int)) hR rfl hA ?_; clear hA ac; intro ac hA
               refine sr_p 4 (Value.int .i64 ((ot - (b - a) : Nat) : Int)) hR rfl hA ?_; clear hA ac; intro ac hA
               refine sr_q 5 (Value.int .i64 ((a + (ot - (b - a)) : Nat) : Int)) hR rfl hA (Rd.pureE (v0 := Value.int .i64 (IntKind.i64.wrap ((((a : Nat) : Int) : Int) + ((ot - (b - a) : Nat) : Int)))) (fun _ => by kernel_rfl) (congrArg (Value.int .i64) ((w_i64 (x := (((a : Nat) : Int) : Int) + ((ot - (b - a) : Nat) : Int)) (by omega) (by omega)).trans (by omega)))) ?_; clear hA ac; intro ac hA
               refine sr_p 6 (Value.slice (some ⟨b10, o11, none⟩) n_l c_l) hR rfl hA ?_; clear hA ac; intro ac hA
               refine sr_p 7 (Value.int .i64 ((a : Nat) : Int)) hR rfl hA ?_; clear hA ac; intro ac hA
               refine sr_p 8 (Value.int .i64 ((ot - (b - a) : Nat) : Int)) hR rfl hA ?_; clear hA ac; intro ac hA
               refine sr_q 9 (Value.int .i64 ((a + (ot - (b - a)) : Nat) : Int)) hR rfl hA (Rd.pureE (v0 := Value.int .i64 (IntKind.i64.wrap ((((a : Nat) : Int) : Int) + ((ot - (b - a) : Nat) : Int)))) (fun _ => by kernel_rfl) (congrArg (Value.int .i64) ((w_i64 (x := (((a : Nat) : Int) : Int) + ((ot - (b - a) : Nat) : Int)) (by omega) (by omega)).trans (by omega)))) ?_; clear hA ac; intro ac hA
               refine sr_q 10 (Value.pointer (some ⟨b10, o11 + (a + (ot - (b - a))) * 1, none⟩)) hR rfl hA (Rd.indexAddr (e := 35) (sz := 1) (b := b10) (off := o11) (n := n_l) (c := c_l) (k := a + (ot - (b - a))) (by kernel_rfl) (by kernel_rfl) (by first | omega | (simp; done) | (simp; omega)) (fun _ => by kernel_rfl) (fun _ => by kernel_rfl)) ?_; clear hA ac; intro ac hA
               refine sr_t 11 (Value.int .u32 y12) hR rfl hA hC (Rd.loadRow (b := b10) (i := o11 + (a + (ot - (b - a))) * 1) (xs := [Value.int .u32 y12]) (by kernel_rfl) (fun _ hw => row_ld (rowR_at ((hw).get 1 rfl) elt_U4.len) hy12 (Fr.refl No _) (fun h => h) 0 1 (by kernel_rfl)) (by kernel_rfl)) ?_; clear hA ac; intro ac hA
               refine sr_p 12 (Value.slice (some ⟨b10, o11, none⟩) n_l c_l) hR rfl hA ?_; clear hA ac; intro ac hA
               refine sr_p 13 (Value.int .i64 ((ix : Nat) : Int)) hR rfl hA ?_; clear hA ac; intro ac hA
               refine sr_q 14 (Value.pointer (some ⟨b10, o11 + ix * 1, none⟩)) hR rfl hA (Rd.indexAddr (e := 35) (sz := 1) (b := b10) (off := o11) (n := n_l) (c := c_l) (k := ix) (by kernel_rfl) (by kernel_rfl) (by first | omega | (simp; done) | (simp; omega)) (fun _ => by kernel_rfl) (fun _ => by kernel_rfl)) ?_; clear hA ac; intro ac hA
               refine sr_t 15 (Value.int .u32 y9) hR rfl hA hC (Rd.loadRow (b := b10) (i := o11 + ix * 1) (xs := [Value.int .u32 y9]) (by kernel_rfl) (fun _ hw => row_ld (rowR_at ((hw).get 1 rfl) elt_U4.len) hy9 (Fr.refl No _) (fun h => h) 0 1 (by kernel_rfl)) (by kernel_rfl)) ?_; clear hA ac; intro ac hA
               refine sr_q 16 (Value.pointer (some ⟨b10, o11 + ix * 1, none⟩)) hR rfl hA (Rd.indexAddr (e := 35) (sz := 1) (b := b10) (off := o11) (n := n_l) (c := c_l) (k := ix) (by kernel_rfl) (by kernel_rfl) (by first | omega | (simp; done) | (simp; omega)) (fun _ => by kernel_rfl) (fun _ => by kernel_rfl)) ?_; clear hA ac; intro ac hA
               refine sr_one (i := 17) (by kernel_rfl) (sr_d rfl hA (Runs.storeRow (E := 35) (sz := 1) (en := enU4) (b := b10) (off := o11) (k := ix) (n := n_l) (c := c_l) (v := Value.int .u32 y12) (y12 : Int) elt_U4 (by kernel_rfl) (by kernel_rfl) (by kernel_rfl) (by kernel_rfl) hW (i := 1) rfl (by first | omega | (simp; done) | (simp; omega)) (by first | rfl | omega | (simp; done) | (simp; omega)) ?_)); clear hA ac hW; intro w14 hW ac hA
               refine ⟨⟨fun h => absurd h (by decide), fun h => absurd h (by decide)⟩, ?_⟩
               obtain ⟨y15, hy15⟩ : ∃ y, (List.set d ix (y12 : Int))[a + (ot - (b - a))]? = some y := ⟨_, List.getElem?_eq_getElem (by first | omega | (simp; done) | (simp; omega))⟩
               refine sr_q 18 (Value.pointer (some ⟨b10, o11 + (a + (ot - (b - a))) * 1, none⟩)) hR rfl hA (Rd.indexAddr (e := 35) (sz := 1) (b := b10) (off := o11) (n := n_l) (c := c_l) (k := a + (ot - (b - a))) (by kernel_rfl) (by kernel_rfl) (by first | omega | (simp; done) | (simp; omega)) (fun _ => by kernel_rfl) (fun _ => by kernel_rfl)) ?_; clear hA ac; intro ac hA
               refine sr_one (i := 19) (by kernel_rfl) (sr_d rfl hA (Runs.storeRow (E := 35) (sz := 1) (en := enU4) (b := b10) (off := o11) (k := a + (ot - (b - a))) (n := n_l) (c := c_l) (v := Value.int .u32 y9) (y9 : Int) elt_U4 (by kernel_rfl) (by kernel_rfl) (by kernel_rfl) (by kernel_rfl) hW (i := 1) rfl (by first | omega | (simp; done) | (simp; omega)) (by first | rfl | omega | (simp; done) | (simp; omega)) ?_)); clear hA ac hW; intro w16 hW ac hA
               refine ⟨⟨fun h => absurd h (by decide), fun h => absurd h (by decide)⟩, ?_⟩
               refine sr_done (by kernel_rfl) ?_ _
               exact ⟨hA.sub ⟨⟨by kernel_rfl, by kernel_rfl⟩, ⟨by kernel_rfl, by kernel_rfl⟩, ⟨by kernel_rfl, by kernel_rfl⟩, ⟨by kernel_rfl, by kernel_rfl⟩, ⟨by kernel_rfl, by kernel_rfl⟩, ⟨by kernel_rfl, by kernel_rfl⟩, ⟨by kernel_rfl, by kernel_rfl⟩, ⟨by kernel_rfl, by kernel_rfl⟩, ⟨by kernel_rfl, by kernel_rfl⟩, ⟨by kernel_rfl, by kernel_rfl⟩, ⟨by kernel_rfl, by kernel_rfl⟩, ⟨by kernel_rfl, by kernel_rfl⟩, ⟨by kernel_rfl, by kernel_rfl⟩, ⟨by kernel_rfl, by kernel_rfl⟩, ⟨by kernel_rfl, by kernel_rfl⟩, ⟨by kernel_rfl, by kernel_rfl⟩, ⟨by kernel_rfl, by kernel_rfl⟩, ⟨by kernel_rfl, by kernel_rfl⟩, ⟨by kernel_rfl, by kernel_rfl⟩, ⟨by kernel_rfl, by kernel_rfl⟩, ⟨by kernel_rfl, by kernel_rfl⟩, ⟨by kernel_rfl, by kernel_rfl⟩, ⟨by kernel_rfl, by kernel_rfl⟩, ⟨by kernel_rfl, by kernel_rfl⟩, ⟨by kernel_rfl, by kernel_rfl⟩, ⟨by kernel_rfl, by kernel_rfl⟩, ⟨by kernel_rfl, by kernel_rfl⟩, trivial⟩, (hW.pick [0, 1] (by decide) rfl).pickG [] rfl⟩
             clear hA ac hW; rintro ac w17 ⟨hA, hW⟩
             refine blkN ?_
             refine thenN ?_
             refine wp_region_lit ?_
             refine st_p (Value.int .i64 ((ix : Nat) : Int)) hA ?_; clear hA ac; intro ac hA
             refine st_q (Value.int .i64 ((ix + 1 : Nat) : Int)) hA hW.cls (Rd.pureE (v0 := Value.int .i64 (IntKind.i64.wrap ((((ix : Nat) : Int) : Int) + 1))) (fun _ => by kernel_rfl) (congrArg (Value.int .i64) ((w_i64 (x := (((ix : Nat) : Int) : Int) + 1) (by omega) (by omega)).trans (by omega)))) ?_; clear hA ac; intro ac hA
             refine st_p (Value.int .i64 ((ix + 1 : Nat) : Int)) hA ?_; clear hA ac; intro ac hA
             refine wpList_nil ?_
             refine thenN ?_
             exact ⟨3 - (t + 1), by omega, t + 1, ix + 1, (Sort.xorNext u), List.set (List.set d ix (y12 : Int)) (a + (ot - (b - a))) (y9 : Int), rfl, by omega, by rw [← hs, show 3 - t = (3 - (t + 1)) + 1 from by omega]; exact (bp_step hot (by rw [if_pos (by omega)]) hy9 hy12).symm, by rw [set2_len]; exact hl, hA.sub ⟨⟨by kernel_rfl, by kernel_rfl⟩, ⟨by kernel_rfl, by kernel_rfl⟩, ⟨by kernel_rfl, by kernel_rfl⟩, ⟨by kernel_rfl, by kernel_rfl⟩, ⟨by kernel_rfl, by kernel_rfl⟩, ⟨by kernel_rfl, by kernel_rfl⟩, ⟨by kernel_rfl, by kernel_rfl⟩, trivial⟩, (hW.pick [0, 1] (by decide) rfl).pickG [] rfl⟩)
         · skip
           have h8 := of_decide_eq_false h8
           first
           | (exfalso; clear hA hW; omega)
           | (
             refine wp_skip ?_
             refine thenN ?_
             obtain ⟨y18, hy18⟩ : ∃ y, d[ix]? = some y := ⟨_, List.getElem?_eq_getElem (by omega)⟩
             obtain ⟨b19, o20, rfl, hbb19⟩ := row_some (rowR_at ((hW).get 1 rfl) elt_U4.len) hy18
             obtain ⟨y21, hy21⟩ : ∃ y, d[a + ot]? = some y := ⟨_, List.getElem?_eq_getElem (by omega)⟩
             refine wp_cut (fun ac_ wl_ => Fm 65 [] [(0, Value.slice (some ⟨b19, o20, none⟩) n_l c_l), (1, Value.int .i64 ((a : Nat) : Int)), (2, Value.int .i64 ((b : Nat) : Int)), (6, Value.int .i64 ((b - a : Nat) : Int)), (7, Value.pointer (some ⟨b2, 0, none⟩)), (8, Value.int .u64 ((M : Nat) : Int)), (9, Value.int .i64 ((ix : Nat) : Int)), (10, Value.int .i64 ((ot : Nat) : Int)), (26, Value.int .i64 ((ix : Nat) : Int)), (27, Value.int .i64 ((a : Nat) : Int)), (28, Value.int .i64 ((b - a : Nat) : Int)), (29, Value.int .i64 (((b - a) / 4 : Nat) : Int)), (30, Value.int .i64 ((((b - a) / 4) * 2 : Nat) : Int)), (31, Value.int .i64 ((a + (((b - a) / 4) * 2) : Nat) : Int)), (32, Value.int .i64 (((a + (((b - a) / 4) * 2)) + 1 : Nat) : Int)), (33, Value.bool (decide ((((ix : Nat) : Int) : Int) ≤ ((((a + (((b - a) / 4) * 2)) + 1 : Nat) : Int) : Int)))), (36, Value.int .u64 (((Sort.xorNext u).toNat : Nat) : Int)), (37, Value.int .u64 ((M : Nat) : Int)), (38, Value.int .u64 ((M - 1 : Nat) : Int)), (39, Value.int .u64 (bits .and .u64 ((((Sort.xorNext u).toNat : Nat) : Int) : Int) (((M - 1 : Nat) : Int) : Int))), (40, Value.int .i64 ((ot : Nat) : Int)), (41, Value.int .i64 ((ot : Nat) : Int)), (42, Value.int .i64 ((b - a : Nat) : Int)), (43, Value.bool (decide ((((ot : Nat) : Int) : Int) ≥ (((b - a : Nat) : Int) : Int))))] ac_ ∧ Ws w (· ∈ (srtR (some ⟨b19, o20, none⟩) n_l c_l l).fp) [RnR b2 (Sort.xorNext u), rowR 35 1 enU4 (Value.slice (some ⟨b19, o20, none⟩) n_l c_l) (List.set (List.set d ix (y21 : Int)) (a + ot) (y18 : Int))] [] wl_) ?_ ?_
             · refine sr_region (m := 20) (C := Ws w (· ∈ (srtR (some ⟨b19, o20, none⟩) n_l c_l l).fp) [RnR b2 (Sort.xorNext u), rowR 35 1 enU4 (Value.slice (some ⟨b19, o20, none⟩) n_l c_l) d] []) (fun i => [11, 15].contains i) (fun i => [11, 15].contains i) (fun i => [0, 1, 2, 3, 4, 5, 6, 7, 8, 9, 10, 12, 13, 14, 16, 18].contains i) (by kernel_rfl) (by kernel_rfl) (by kernel_rfl) (by kernel_rfl) hW ?_; clear hW; intro w22 hW hfw22 hR; have hC : Ws w (· ∈ (srtR (some ⟨b19, o20, none⟩) n_l c_l l).fp) [RnR b2 (Sort.xorNext u), rowR 35 1 enU4 (Value.slice (some ⟨b19, o20, none⟩) n_l c_l) d] [] w22 := hW.pick [0, 1] (by decide) rfl
               refine sr_p 0 (Value.slice (some ⟨b19, o20, none⟩) n_l c_l) hR rfl hA ?_; clear hA ac; intro ac hA
               refine sr_p 1 (Value.int .i64 ((ix : Nat) : Int)) hR rfl hA ?_; clear hA ac; intro ac hA
               refine sr_p 2 (Value.slice (some ⟨b19, o20, none⟩) n_l c_l) hR rfl hA ?_; clear hA ac; intro ac hA
               refine sr_p 3 (Value.int .i64 ((a : Nat) : Int)) hR rfl hA ?_; clear hA ac; intro ac hA
               refine sr_p 4 (Value.int .i64 ((ot : Nat) : Int)) hR rfl hA ?_; clear hA ac; intro ac hA
               refine sr_q 5 (Value.int .i64 ((a + ot : Nat) : Int)) hR rfl hA (Rd.pureE (v0 := Value.int .i64 (IntKind.i64.wrap ((((a : Nat) : Int) : Int) + ((ot : Nat) : Int)))) (fun _ => by kernel_rfl) (congrArg (Value.int .i64) ((w_i64 (x := (((a : Nat) : Int) : Int) + ((ot : Nat) : Int)) (by omega) (by omega)).trans (by omega)))) ?_; clear hA ac; intro ac hA
               refine sr_p 6 (Value.slice (some ⟨b19, o20, none⟩) n_l c_l) hR rfl hA ?_; clear hA ac; intro ac hA
               refine sr_p 7 (Value.int .i64 ((a : Nat) : Int)) hR rfl hA ?_; clear hA ac; intro ac hA
               refine sr_p 8 (Value.int .i64 ((ot : Nat) : Int)) hR rfl hA ?_; clear hA ac; intro ac hA
               refine sr_q 9 (Value.int .i64 ((a + ot : Nat) : Int)) hR rfl hA (Rd.pureE (v0 := Value.int .i64 (IntKind.i64.wrap ((((a : Nat) : Int) : Int) + ((ot : Nat) : Int)))) (fun _ => by kernel_rfl) (congrArg (Value.int .i64) ((w_i64 (x := (((a : Nat) : Int) : Int) + ((ot : Nat) : Int)) (by omega) (by omega)).trans (by omega)))) ?_; clear hA ac; intro ac hA
               refine sr_q 10 (Value.pointer (some ⟨b19, o20 + (a + ot) * 1, none⟩)) hR rfl hA (Rd.indexAddr (e := 35) (sz := 1) (b := b19) (off := o20) (n := n_l) (c := c_l) (k := a + ot) (by kernel_rfl) (by kernel_rfl) (by first | omega | (simp; done) | (simp; omega)) (fun _ => by kernel_rfl) (fun _ => by kernel_rfl)) ?_; clear hA ac; intro ac hA
               refine sr_t 11 (Value.int .u32 y21) hR rfl hA hC (Rd.loadRow (b := b19) (i := o20 + (a + ot) * 1) (xs := [Value.int .u32 y21]) (by kernel_rfl) (fun _ hw => row_ld (rowR_at ((hw).get 1 rfl) elt_U4.len) hy21 (Fr.refl No _) (fun h => h) 0 1 (by kernel_rfl)) (by kernel_rfl)) ?_; clear hA ac; intro ac hA
               refine sr_p 12 (Value.slice (some ⟨b19, o20, none⟩) n_l c_l) hR rfl hA ?_; clear hA ac; intro ac hA
               refine sr_p 13 (Value.int .i64 ((ix : Nat) : Int)) hR rfl hA ?_; clear hA ac; intro ac hA
               refine sr_q 14 (Value.pointer (some ⟨b19, o20 + ix * 1, none⟩)) hR rfl hA (Rd.indexAddr (e := 35) (sz := 1) (b := b19) (off := o20) (n := n_l) (c := c_l) (k := ix) (by kernel_rfl) (by kernel_rfl) (by first | omega | (simp; done) | (simp; omega)) (fun _ => by kernel_rfl) (fun _ => by kernel_rfl)) ?_; clear hA ac; intro ac hA
               refine sr_t 15 (Value.int .u32 y18) hR rfl hA hC (Rd.loadRow (b := b19) (i := o20 + ix * 1) (xs := [Value.int .u32 y18]) (by kernel_rfl) (fun _ hw => row_ld (rowR_at ((hw).get 1 rfl) elt_U4.len) hy18 (Fr.refl No _) (fun h => h) 0 1 (by kernel_rfl)) (by kernel_rfl)) ?_; clear hA ac; intro ac hA
               refine sr_q 16 (Value.pointer (some ⟨b19, o20 + ix * 1, none⟩)) hR rfl hA (Rd.indexAddr (e := 35) (sz := 1) (b := b19) (off := o20) (n := n_l) (c := c_l) (k := ix) (by kernel_rfl) (by kernel_rfl) (by first | omega | (simp; done) | (simp; omega)) (fun _ => by kernel_rfl) (fun _ => by kernel_rfl)) ?_; clear hA ac; intro ac hA
               refine sr_one (i := 17) (by kernel_rfl) (sr_d rfl hA (Runs.storeRow (E := 35) (sz := 1) (en := enU4) (b := b19) (off := o20) (k := ix) (n := n_l) (c := c_l) (v := Value.int .u32 y21) (y21 : Int) elt_U4 (by kernel_rfl) (by kernel_rfl) (by kernel_rfl) (by kernel_rfl) hW (i := 1) rfl (by first | omega | (simp; done) | (simp; omega)) (by first | rfl | omega | (simp; done) | (simp; omega)) ?_)); clear hA ac hW; intro w23 hW ac hA
               refine ⟨⟨fun h => absurd h (by decide), fun h => absurd h (by decide)⟩, ?_⟩
               obtain ⟨y24, hy24⟩ : ∃ y, (List.set d ix (y21 : Int))[a + ot]? = some y := ⟨_, List.getElem?_eq_getElem (by first | omega | (simp; done) | (simp; omega))⟩
               refine sr_q 18 (Value.pointer (some ⟨b19, o20 + (a + ot) * 1, none⟩)) hR rfl hA (Rd.indexAddr (e := 35) (sz := 1) (b := b19) (off := o20) (n := n_l) (c := c_l) (k := a + ot) (by kernel_rfl) (by kernel_rfl) (by first | omega | (simp; done) | (simp; omega)) (fun _ => by kernel_rfl) (fun _ => by kernel_rfl)) ?_; clear hA ac; intro ac hA
               refine sr_one (i := 19) (by kernel_rfl) (sr_d rfl hA (Runs.storeRow (E := 35) (sz := 1) (en := enU4) (b := b19) (off := o20) (k := a + ot) (n := n_l) (c := c_l) (v := Value.int .u32 y18) (y18 : Int) elt_U4 (by kernel_rfl) (by kernel_rfl) (by kernel_rfl) (by kernel_rfl) hW (i := 1) rfl (by first | omega | (simp; done) | (simp; omega)) (by first | rfl | omega | (simp; done) | (simp; omega)) ?_)); clear hA ac hW; intro w25 hW ac hA
               refine ⟨⟨fun h => absurd h (by decide), fun h => absurd h (by decide)⟩, ?_⟩
               refine sr_done (by kernel_rfl) ?_ _
               exact ⟨hA.sub ⟨⟨by kernel_rfl, by kernel_rfl⟩, ⟨by kernel_rfl, by kernel_rfl⟩, ⟨by kernel_rfl, by kernel_rfl⟩, ⟨by kernel_rfl, by kernel_rfl⟩, ⟨by kernel_rfl, by kernel_rfl⟩, ⟨by kernel_rfl, by kernel_rfl⟩, ⟨by kernel_rfl, by kernel_rfl⟩, ⟨by kernel_rfl, by kernel_rfl⟩, ⟨by kernel_rfl, by kernel_rfl⟩, ⟨by kernel_rfl, by kernel_rfl⟩, ⟨by kernel_rfl, by kernel_rfl⟩, ⟨by kernel_rfl, by kernel_rfl⟩, ⟨by kernel_rfl, by kernel_rfl⟩, ⟨by kernel_rfl, by kernel_rfl⟩, ⟨by kernel_rfl, by kernel_rfl⟩, ⟨by kernel_rfl, by kernel_rfl⟩, ⟨by kernel_rfl, by kernel_rfl⟩, ⟨by kernel_rfl, by kernel_rfl⟩, ⟨by kernel_rfl, by kernel_rfl⟩, ⟨by kernel_rfl, by kernel_rfl⟩, ⟨by kernel_rfl, by kernel_rfl⟩, ⟨by kernel_rfl, by kernel_rfl⟩, ⟨by kernel_rfl, by kernel_rfl⟩, ⟨by kernel_rfl, by kernel_rfl⟩, trivial⟩, (hW.pick [0, 1] (by decide) rfl).pickG [] rfl⟩
             clear hA ac hW; rintro ac w26 ⟨hA, hW⟩
             refine blkN ?_
             refine thenN ?_
             refine wp_region_lit ?_
             refine st_p (Value.int .i64 ((ix : Nat) : Int)) hA ?_; clear hA ac; intro ac hA
             refine st_q (Value.int .i64 ((ix + 1 : Nat) : Int)) hA hW.cls (Rd.pureE (v0 := Value.int .i64 (IntKind.i64.wrap ((((ix : Nat) : Int) : Int) + 1))) (fun _ => by kernel_rfl) (congrArg (Value.int .i64) ((w_i64 (x := (((ix : Nat) : Int) : Int) + 1) (by omega) (by omega)).trans (by omega)))) ?_; clear hA ac; intro ac hA
             refine st_p (Value.int .i64 ((ix + 1 : Nat) : Int)) hA ?_; clear hA ac; intro ac hA
             refine wpList_nil ?_
             refine thenN ?_
             exact ⟨3 - (t + 1), by omega, t + 1, ix + 1, (Sort.xorNext u), List.set (List.set d ix (y21 : Int)) (a + ot) (y18 : Int), rfl, by omega, by rw [← hs, show 3 - t = (3 - (t + 1)) + 1 from by omega]; exact (bp_step hot (by rw [if_neg (by omega)]) hy18 hy21).symm, by rw [set2_len]; exact hl, hA.sub ⟨⟨by kernel_rfl, by kernel_rfl⟩, ⟨by kernel_rfl, by kernel_rfl⟩, ⟨by kernel_rfl, by kernel_rfl⟩, ⟨by kernel_rfl, by kernel_rfl⟩, ⟨by kernel_rfl, by kernel_rfl⟩, ⟨by kernel_rfl, by kernel_rfl⟩, ⟨by kernel_rfl, by kernel_rfl⟩, trivial⟩, (hW.pick [0, 1] (by decide) rfl).pickG [] rfl⟩))
     · skip
       have h6 := of_decide_eq_false h6
       first
       | (exfalso; clear hA hW; omega)
       | (
         refine wp_exit ?_
         refine thenX ?_
         refine thenX ?_
         refine blkX ?_
         refine ret0 (.inr rfl) rfl hA ?_
         clear hA
         rw [show 3 - t = 0 from by omega] at hs
         exact ⟨d, rfl, by exact hs, by exact hl, (hW.pick [1] (by decide) rfl).updDone 0 rfl⟩))
 · skip
   have h1 := of_decide_eq_false h1
   first
   | (exfalso; clear hA hW; omega)
   | (
     fail)

end Go.Proofs.Ytcgcippmbeileaa.L
