/- Contracts, walked by program over the engine's laws. -/
import Derived.Test.YtoakhhilmnfpkaaGreatDoorProg
import Derived.Test.YtoakhhilmnfpkaaGreatDoorT1
namespace Go.Proofs.YtoakhhilmnfpkaaGreatDoor.L
open Go.RowKit
open Go.Value renaming int → vI, slice → vS, bool → vB, pointer → vP, func → vF, agg → vA, map → vM, tuple → vT

structure SV where
  l : List Int
  l_A : Option Addr
  l_c : Nat
def SV.v (x : SV) : Value := .slice x.l_A x.l.length x.l_c
def enSV (x : SV) : List Value := [.slice x.l_A x.l.length x.l_c]
theorem elt_SV : Elt Tryz.prog 81 1 enSV := ⟨⟨vS none 0 0, 24, by kernel_rfl, rfl, by decide⟩, by decide, fun _ => rfl, fun x u hu => List.all_eq_true.1 (show (enSV x).all (·.oneCell') = true from rfl) u hu⟩
def innerSV (x : SV) : Res := roR x.l_A 1 enU8 x.l
def capSV (x : SV) : Prop := x.l.length ≤ x.l_c
theorem nest_ltSV {V : List SV} {w : World} (h : (nestR innerSV V).p w) : ∀ b ∈ (nestR innerSV V).fp, b < w.heap.size := nest_lt (A := fun x : SV => x.l_A) (sz := fun _ => 1) (L := fun x : SV => x.l) (en := enU8) h
/-- A row of the caller's own, which may grow. -/
def ownR (A : Option Addr) (c : Nat) (l : List Int) : Res := rowR 29 1 enU8 (.slice A l.length c) l
/-- A vector without the noughts at its end. -/
def trimC (c : List Int) : List Int := (c.reverse.dropWhile fun n => decide (n = 0)).reverse
theorem trim_step {d : List Int} {y : Int} (h : d[d.length - 1]? = some y) (h0 : y = 0) : trimC (d.take (d.length - 1)) = trimC d := by
  have hl := (List.getElem?_eq_some_iff.1 h).1
  have e : d = d.take (d.length - 1) ++ [y] := by
    conv => lhs; rw [← List.take_append_drop (d.length - 1) d]
    congr 1
    rw [List.drop_eq_getElem_cons (by omega), (List.getElem?_eq_some_iff.1 h).2, show d.length - 1 + 1 = d.length from by omega, List.drop_length]
  conv => rhs; rw [e]
  unfold trimC
  rw [List.reverse_append, List.reverse_singleton, List.singleton_append, List.dropWhile_cons_of_pos (by simpa using h0)]
theorem trim_done {d : List Int} {y : Int} (h : d[d.length - 1]? = some y) (h0 : ¬ y = 0) : trimC d = d := by
  have hl := (List.getElem?_eq_some_iff.1 h).1
  have e : d = d.take (d.length - 1) ++ [y] := by
    conv => lhs; rw [← List.take_append_drop (d.length - 1) d]
    congr 1
    rw [List.drop_eq_getElem_cons (by omega), (List.getElem?_eq_some_iff.1 h).2, show d.length - 1 + 1 = d.length from by omega, List.drop_length]
  unfold trimC
  conv => lhs; rw [e]
  rw [List.reverse_append, List.reverse_singleton, List.singleton_append, List.dropWhile_cons_of_neg (by simpa using h0)]
  conv => rhs; rw [e]
  simp
theorem trim_nil {d : List Int} (h : d.length = 0) : trimC d = [] := by rw [List.eq_nil_of_length_eq_zero h]; rfl
theorem trim_len (c : List Int) : (trimC c).length ≤ c.length := by
  unfold trimC; rw [List.length_reverse]; exact Nat.le_trans (List.dropWhile_sublist _).length_le (by simp)
/-- The join of two, of many. -/
def joinC : List Int → List Int → List Int
  | s, [] => s
  | [], n :: c => max 0 n :: joinC [] c
  | x :: s, n :: c => max x n :: joinC s c
theorem joinC_nil (s : List Int) : joinC s [] = s := by cases s <;> rfl
theorem joinC_len : ∀ (s c : List Int), (joinC s c).length = max s.length c.length
  | s, [] => by rw [joinC_nil]; simp
  | [], n :: c => by simp only [joinC, List.length_cons, joinC_len [] c, List.length_nil]; omega
  | x :: s, n :: c => by simp only [joinC, List.length_cons, joinC_len s c]; omega
theorem joinC_snoc : ∀ (s c : List Int) (n : Int), joinC s (c ++ [n]) = if c.length < s.length then (joinC s c).set c.length (max ((joinC s c)[c.length]?.getD 0) n) else joinC s c ++ [max 0 n]
  | [], [], n => by simp [joinC]
  | x :: s, [], n => by simp [joinC]
  | [], m :: c, n => by have := joinC_snoc [] c n; simp only [List.length_nil, Nat.not_lt_zero, if_false] at this; simp [joinC, this]
  | x :: s, m :: c, n => by
    have := joinC_snoc s c n
    simp only [List.cons_append, joinC, this, List.length_cons, Nat.add_lt_add_iff_right]
    split <;> simp
theorem joinC_low {s c : List Int} {n : Int} {x : Int} (h : c.length < s.length) (hx : (joinC s c)[c.length]? = some x) : joinC s (c ++ [n]) = (joinC s c).set c.length (max x n) := by rw [joinC_snoc, if_pos h, hx]; rfl
theorem joinC_end {s c : List Int} {n x : Int} (h : ¬ c.length < s.length) (hx : (joinC s c ++ [0])[c.length]? = some x) : joinC s (c ++ [n]) = (joinC s c ++ [0]).set c.length (max x n) := by
  have hl : (joinC s c).length = c.length := by rw [joinC_len]; omega
  rw [joinC_snoc, if_neg h]
  rw [← hl, List.getElem?_append_right (Nat.le_refl _)] at hx
  simp at hx; subst hx
  rw [← hl, List.set_append_right _ _ (Nat.le_refl _)]; simp
theorem rowR_take {α : Type} {w : World} {E sz : Nat} {en : α → List Value} {A : Option Addr} {n c k : Nat} {l : List α} (hlen : ∀ x, (en x).length = sz) (hn : n = l.length) (h : (rowR E sz en (.slice A n c) l).p w) : (rowR E sz en (.slice A (l.take k).length c) (l.take k)).p w := by
  refine ⟨flat_len hlen _, ?_⟩
  rcases h.2 with ⟨h1, h2⟩ | ⟨g, cap, cur, h1, hb, hg, h3, h4, h5, h6⟩
  · cases h1; left
    have : l = [] := List.eq_nil_of_length_eq_zero h2
    subst this; simp
  · cases h1; right
    have hle : (l.take k).length ≤ l.length := by rw [List.length_take]; omega
    refine ⟨g, c, cur, rfl, hb, hg, by omega, h4, h5, ?_⟩
    have e : flat en l = flat en (l.take k) ++ flat en (l.drop k) := by
      rw [← flat_app, List.take_append_drop]
    have hk : (flat en (l.take k)).length = (l.take k).length * sz := flat_len hlen _
    have h7 := congrArg (List.take ((l.take k).length * sz)) h6
    rw [List.take_take, Nat.min_eq_left (Nat.mul_le_mul_right _ (by omega)), e, List.take_left' hk] at h7
    exact h7
theorem Ws.rowTake {α : Type} {w0 w : World} {S : Nat → Prop} {H G : List Res} {E sz : Nat} {en : α → List Value} {A : Option Addr} {n c : Nat} {l : List α} (h : Ws w0 S H G w) (i : Nat) (hi : H[i]? = some (rowR E sz en (.slice A n c) l)) (hlen : ∀ x, (en x).length = sz) (hn : n = l.length) (k : Nat) {H' : List Res} (hH : H.set i (rowR E sz en (.slice A (l.take k).length c) (l.take k)) = H') : Ws w0 S H' G w := by
  have hp := h.get i hi
  refine h.turn i hi (Fr.refl _ w) (r' := rowR E sz en (.slice A (l.take k).length c) (l.take k)) (rowR_take hlen hn hp) (fun x hx => ?_) hH
  have hx' : x ∈ (rowR E sz en (.slice A n c) l).fp := by cases A <;> exact hx
  exact ⟨.inl hx', h.lt _ (List.mem_of_getElem? hi) x hx'⟩
set_option maxRecDepth 100000 in
theorem e_vtrim (A_l : Option Addr) (c_l : Nat) (l : List Int) (w : World) (hr_l : RowAt w A_l 1 enU8 l) (hc_l : l.length ≤ c_l) (hl : l.length ≤ 100000) : Calls Tryz.prog 74 #[vS A_l l.length c_l] w (fun e w' => ∃ O_ : List Int, ∃ (A_o : Option Addr) (c_o : Nat), e = .returned (vS A_o O_.length c_o) ∧ (O_ = trimC l) ∧ O_.length ≤ c_o ∧ (roR A_o 1 enU8 O_).from_ [roR A_l 1 enU8 l] w w' ∧ Fr No w w') := by
 have _hu := hc_l; have _hv := hr_l; clear _hu _hv
 have _hu := hl; clear _hu
 refine enter_E 27 Tryz.func74 rfl rfl (by kernel_rfl) (L := [(0, vS A_l l.length c_l)]) (by kernel_rfl) ?_
 intro ac hA
 have hW := Ws.start w No
 have hW := hW.arg hr_l
 refine wr <| st_p (vS none 0 0) hA ?_; clear hA ac; intro ac hA
 refine wn <| wr <| st_p (vS A_l l.length c_l) hA ?_; clear hA ac; intro ac hA
 refine st_s hA (Runs.callRow (E := 29) (sz := 1) (en := enU8) (l := l) (fun _ => by kernel_rfl) hW (e_vclone A_l c_l l w ((hW).getG 0 rfl) (by first | assumption | omega | (simp; omega) | simp) (by omega)) ?_); clear hA ac hW; intro A2 c3 w1 hW hcc3 hfw1 ac hA
 refine st_p (vS A2 l.length c3) hA ?_; clear hA ac; intro ac hA
 refine wn <| wp_seq <| wp_block <| wp_loop_m (fun m_ ac_ wl_ => ∃ d : List Int, ∃ A : Option Addr, ∃ c : Nat, m_ = d.length ∧ (trimC d = trimC l) ∧ (d.length ≤ 100000) ∧ (d.length ≤ c) ∧ Fm 27 [] [(3, vS A d.length c)] ac_ ∧ Ws w No [rowR 29 1 enU8 (vS A d.length c) d] [roR A_l 1 enU8 l] wl_) _ ⟨l, A2, c3, rfl, by rfl, by omega, by omega, hA.sub ⟨⟨by kernel_rfl, by kernel_rfl⟩, trivial⟩, (hW.pick [0] (by decide) rfl).pickG [0] rfl⟩ ?_
 clear hA ac hW; rintro m_ ac w5 ⟨d, A, c, rfl, ht, hd, hdc, hA, hW⟩
 refine wp_seq <| wr <| st_p (vS A d.length c) hA fun ac hA => st_p (vI .i64 (d.length : Int)) hA fun ac hA => st_p (vB (decide ((d.length : Int) > (0 : Int)))) hA fun ac hA => st_p (vB (decide ((d.length : Int) > (0 : Int)))) hA fun ac hA => ?_
 rcases Bool.eq_false_or_eq_true (decide ((d.length : Int) > (0 : Int))) with h6 | h6
 ·
  rw [h6] at hA
  have h6 := of_decide_eq_true h6
  refine st_p (vS A d.length c) hA fun ac hA => st_p (vS A d.length c) hA fun ac hA => st_p (vI .i64 (d.length : Int)) hA fun ac hA => st_q (vI .i64 ((d.length - 1 : Nat) : Int)) hA hW.cls (Rd.pureE (v0 := vI .i64 (IntKind.i64.wrap ((d.length : Int) - 1))) (fun _ => by kernel_rfl) (congrArg (vI .i64) ((w_i64 (x := (d.length : Int) - 1) (by omega) (by omega)).trans (by omega)))) fun ac hA => ?_
  obtain ⟨y7, hy7⟩ : ∃ y, d[d.length - 1]? = some y := ⟨_, List.getElem?_eq_getElem (by first | omega | (simp; done) | (simp; omega))⟩
  obtain ⟨b8, o9, rfl, hbb8⟩ := row_some (rowR_at ((hW).get 0 rfl) elt_U8.len) hy7
  refine st_q (vP (some ⟨b8, o9 + (d.length - 1) * 1, none⟩)) hA hW.cls (Rd.indexAddr (e := 29) (sz := 1) (b := b8) (off := o9) (n := d.length) (c := c) (k := d.length - 1) (by kernel_rfl) (by kernel_rfl) (by first | omega | (simp; done) | (simp; omega)) (fun _ => by kernel_rfl) (fun _ => by kernel_rfl)) fun ac hA => st_q (vI .u64 y7) hA hW.cls (Rd.loadRow (b := b8) (i := o9 + (d.length - 1) * 1) (xs := [vI .u64 y7]) (by kernel_rfl) (fun _ hw => row_ld (rowR_at ((hw.1).get 0 rfl) elt_U8.len) hy7 (Fr.refl No _) (fun h => h) 0 1 (by kernel_rfl)) (by kernel_rfl)) fun ac hA => st_p (vB ((y7 : Int) == (0 : Int))) hA fun ac hA => st_p (vB ((y7 : Int) == (0 : Int))) hA fun ac hA => wn <| wp_cond_split (t := (y7 : Int) == (0 : Int)) (hA.eval (by kernel_rfl)) (fun h10 => ?_) (fun h10 => ?_)
  ·
   have h10 := eq_of_beq h10
   refine wp_skip <| thenN <| wp_block <| wp_region_lit <| st_p (vS (some ⟨b8, o9, none⟩) d.length c) hA fun ac hA => st_p (vS (some ⟨b8, o9, none⟩) d.length c) hA fun ac hA => st_p (vI .i64 (d.length : Int)) hA fun ac hA => st_q (vI .i64 ((d.length - 1 : Nat) : Int)) hA hW.cls (Rd.pureE (v0 := vI .i64 (IntKind.i64.wrap ((d.length : Int) - 1))) (fun _ => by kernel_rfl) (congrArg (vI .i64) ((w_i64 (x := (d.length : Int) - 1) (by omega) (by omega)).trans (by omega)))) fun ac hA => st_q (vS (some ⟨b8, o9, none⟩) (d.take (d.length - 1)).length c) hA hW.cls ((Rd.slice (E := 29) (A := (some ⟨b8, o9, none⟩)) (n := d.length) (c := c) (l := 0) (h := (d.length - 1)) (m := c) (sz := 1) (by kernel_rfl) (fun _ => by kernel_rfl) (fun _ => by kernel_rfl) (fun w => bounds_hi (by omega) w)).cast (slice_eq (addr_zero _ _ _) (by first | omega | (simp; done) | (simp; omega)) (by first | omega | (simp; done) | (simp; omega)))) fun ac hA => st_p (vS (some ⟨b8, o9, none⟩) (d.take (d.length - 1)).length c) hA fun ac hA => wpList_nil <| blkN <| thenN ?_
   have hW := hW.rowTake (H' := [rowR 29 1 enU8 (vS (some ⟨b8, o9, none⟩) (d.take (d.length - 1)).length c) (d.take (d.length - 1))]) 0 rfl elt_U8.len (by first | rfl | simp) (d.length - 1) rfl
   have htl_ : (d.take (d.length - 1)).length = d.length - 1 := by simp
   exact ⟨(d.take (d.length - 1)).length, by omega, d.take (d.length - 1), (some ⟨b8, o9, none⟩), c, rfl, by rw [trim_step hy7 (by omega)]; exact ht, by rw [List.length_take]; omega, by rw [List.length_take]; omega, hA.sub ⟨⟨by kernel_rfl, by kernel_rfl⟩, trivial⟩, (hW.pick [0] (by decide) rfl).pickG [0] rfl⟩
  have h10 := ne_of_beq_false h10
  refine wp_exit <| thenX <| thenX <| blkX <| thenN <| wp_seq <| wr <| st_p (vS (some ⟨b8, o9, none⟩) d.length c) hA fun ac hA => st_p (vI .i64 (d.length : Int)) hA fun ac hA => st_p (vB ((d.length : Int) == (0 : Int))) hA fun ac hA => wn <| wp_cond_split (t := (d.length : Int) == (0 : Int)) (hA.eval (by kernel_rfl)) (fun h11 => ?_) (fun h11 => ?_)
  ·
   have h11 := eq_of_beq h11
   exfalso; clear hA hW; omega
  have h11 := ne_of_beq_false h11
  refine wp_skip <| thenN <| wr <| st_p (vS (some ⟨b8, o9, none⟩) d.length c) hA fun ac hA => st_p (vS (some ⟨b8, o9, none⟩) d.length c) hA fun ac hA => wn <| wp_ret <| r1 (vS (some ⟨b8, o9, none⟩) d.length c) hA ?_
  clear hA
  exact ⟨d, (some ⟨b8, o9, none⟩), c, by first | rfl | (simp; done), by rw [← ht]; exact (trim_done hy7 (by omega)).symm, (own_cap ((hW).get 0 rfl)), (hW.outRow 0 rfl elt_U8.len (fun _ h => h)), hW.fr⟩
 rw [h6] at hA
 have h6 := of_decide_eq_false h6
 refine st_k hA fun ac hA => st_k hA fun ac hA => st_k hA fun ac hA => st_k hA fun ac hA => st_k hA fun ac hA => st_k hA fun ac hA => st_k hA fun ac hA => st_p (vB false) hA fun ac hA => wn <| wp_cond_false (hA.eval (by kernel_rfl)) <| wp_exit <| thenX <| thenX <| blkX <| thenN <| wp_seq <| wr <| st_p (vS A d.length c) hA fun ac hA => st_p (vI .i64 (d.length : Int)) hA fun ac hA => st_p (vB ((d.length : Int) == (0 : Int))) hA fun ac hA => wn <| wp_cond_split (t := (d.length : Int) == (0 : Int)) (hA.eval (by kernel_rfl)) (fun h12 => ?_) (fun h12 => ?_)
 ·
  have h12 := eq_of_beq h12
  refine wr <| st_p (vS none 0 0) hA ?_; clear hA ac; intro ac hA
  refine wn <| wp_ret <| thenR <| r1 (vS none 0 0) hA ?_
  clear hA
  exact ⟨[], none, 0, by first | rfl | (simp; done), by rw [← ht]; exact (trim_nil (by omega)).symm, (by simp), from_nil, hW.fr⟩
 have h12 := ne_of_beq_false h12
 exfalso; clear hA hW; omega

set_option maxRecDepth 100000 in
theorem e_join1 (A_l : Option Addr) (c_l : Nat) (l : List Int) (A_c : Option Addr) (c_c : Nat) (c : List Int) (w : World) (ho_l : (ownR A_l c_l l).p w) (hl_l : ∀ x_ ∈ (ownR A_l c_l l).fp, x_ < w.heap.size) (hr_c : RowAt w A_c 1 enU8 c) (hc_c : c.length ≤ c_c) (hd_c : ∀ x_ ∈ (ownR A_l c_l l).fp, x_ ∉ (roR A_c 1 enU8 c).fp) (hl : l.length ≤ 100000 ∧ c.length ≤ 100000 ∧ l.length ≤ c_l) : Calls Tryz.prog 108 #[vS A_l l.length c_l, vS A_c c.length c_c] w (fun e w' => ∃ A' : Option Addr, ∃ c' : Nat, ∃ l' : List Int, e = .returned (vS A' l'.length c') ∧ (l' = joinC l c) ∧ (l'.length ≤ c') ∧ Upd (ownR A_l c_l l) (ownR A' c' l') w w') := by
 have _hu := hc_c; have _hv := hr_c; clear _hu _hv
 have _hu := ho_l; have _hv := hl_l; clear _hu _hv
 have _hu := hl; clear _hu
 refine enter_E 32 Tryz.func108 rfl rfl (by kernel_rfl) (L := [(0, vS A_l l.length c_l), (1, vS A_c c.length c_c)]) (by kernel_rfl) ?_
 intro ac hA
 have hW : Ws w (· ∈ (ownR A_l c_l l).fp) [rowR 29 1 enU8 (vS A_l l.length c_l) l] [] w := objW ho_l hl_l
 clear ho_l hl_l
 have hW := hW.addG (roR A_c 1 enU8 c) hr_c (roR_lt hr_c) (by intro r_ hr_; simp only [List.mem_singleton] at hr_; subst hr_; exact hd_c)
 refine wr <| st_p (vS none 0 0) hA ?_; clear hA ac; intro ac hA
 refine wn <| wp_seq <| wr <| st_p (vS A_c c.length c_c) hA fun ac hA => st_p (vI .i64 (c.length : Int)) hA fun ac hA => st_p (vI .i64 0) hA fun ac hA => wn <| wp_block <| wp_loop_m (fun m_ ac_ wl_ => ∃ k : Nat, ∃ d : List Int, ∃ A : Option Addr, ∃ cc : Nat, m_ = c.length - k ∧ (k ≤ c.length) ∧ (d = joinC l (c.take k)) ∧ (d.length = max l.length k) ∧ (d.length ≤ cc) ∧ Fm 32 [] [(0, vS A d.length cc), (1, vS A_c c.length c_c), (7, vS A_c c.length c_c), (8, vI .i64 (c.length : Int)), (9, vI .i64 (k : Int))] ac_ ∧ Ws w (· ∈ (ownR A_l c_l l).fp) [rowR 29 1 enU8 (vS A d.length cc) d] [roR A_c 1 enU8 c] wl_) _ ⟨0, l, A_l, c_l, rfl, by omega, by rw [List.take_zero, joinC_nil], by omega, by omega, hA.sub (by and_intros <;> first | kernel_rfl | trivial), (hW.pick [0] (by decide) rfl).pickG [0] rfl⟩ ?_
 clear hA ac hW; rintro m_ ac w1 ⟨k, d, A, cc, rfl, hk, hd, hdl, hdc, hA, hW⟩
 refine wr <| st_p (vB (decide ((k : Int) < (c.length : Int)))) hA ?_; clear hA ac; intro ac hA
 refine wn <| wp_seq <| wp_cond_split (t := decide ((k : Int) < (c.length : Int))) (hA.eval (by kernel_rfl)) (fun h2 => ?_) (fun h2 => ?_)
 ·
  have h2 := of_decide_eq_true h2
  refine wp_skip <| thenN <| wp_seq <| wp_block <| wr <| st_p (vI .i64 (k : Int)) hA ?_; clear hA ac; intro ac hA
  obtain ⟨y3, hy3⟩ : ∃ y, c[k]? = some y := ⟨_, List.getElem?_eq_getElem (by first | omega | (simp; done) | (simp; omega))⟩
  obtain ⟨b4, o5, rfl, hbb4⟩ := row_some ((hW).getG 0 rfl) hy3
  refine st_q (vP (some ⟨b4, o5 + k * 1, none⟩)) hA hW.cls (Rd.indexAddr (e := 29) (sz := 1) (b := b4) (off := o5) (n := c.length) (c := c_c) (k := k) (by kernel_rfl) (by kernel_rfl) (by first | omega | (simp; done) | (simp; omega)) (fun _ => by kernel_rfl) (fun _ => by kernel_rfl)) fun ac hA => st_q (vI .u64 y3) hA hW.cls (Rd.loadRow (b := b4) (i := o5 + k * 1) (xs := [vI .u64 y3]) (by kernel_rfl) (fun _ hw => row_ld ((hw.1).getG 0 rfl) hy3 (Fr.refl No _) (fun h => h) 0 1 (by kernel_rfl)) (by kernel_rfl)) fun ac hA => st_p (vI .i64 (k : Int)) hA fun ac hA => st_p (vI .u64 y3) hA fun ac hA => wn <| wp_seq <| wr <| st_p (vI .i64 (k : Int)) hA fun ac hA => st_p (vS A d.length cc) hA fun ac hA => st_p (vI .i64 (d.length : Int)) hA fun ac hA => st_p (vB ((k : Int) == (d.length : Int))) hA fun ac hA => wn <| wp_cond_split (t := (k : Int) == (d.length : Int)) (hA.eval (by kernel_rfl)) (fun h6 => ?_) (fun h6 => ?_)
  ·
   have h6 := eq_of_beq h6
   refine wp_region_lit <| st_p (vS A d.length cc) hA ?_; clear hA ac; intro ac hA
   refine st_s hA (Runs.cells (fun b => vS (some ⟨b, 0, none⟩) 1 1) #[vI .u64 0] 29 (fun _ => by kernel_rfl) hW ?_); clear hA ac hW; intro b7 w8 hW hb7 hfw8 ac hA
   refine st_s hA (Runs.appOwn (B := (some ⟨b7, 0, none⟩)) (k := 1) (E := 29) (sz := 1) (en := enU8) (l := d) (m := ([0] : List Int)) (i := 1) (by kernel_rfl) (by kernel_rfl) elt_U8 (by kernel_rfl) hW rfl (rowAt_cel ((hW).cel 0 rfl) ([0] : List Int) (by rfl) elt_U8.len) (by first | omega | (simp; done) | (simp; omega)) (by first | omega | (simp; done) | (simp; omega)) ?_); clear hA ac hW; intro A9 c10 w11 hW hcc10 ac hA
   refine st_p (vS A9 (d ++ ([0] : List Int)).length c10) hA ?_; clear hA ac; intro ac hA
   refine wn <| wp_region_lit <| st_p (vS A9 (d ++ ([0] : List Int)).length c10) hA fun ac hA => st_p (vI .i64 (k : Int)) hA fun ac hA => st_p (vS A9 (d ++ ([0] : List Int)).length c10) hA fun ac hA => st_p (vI .i64 (k : Int)) hA fun ac hA => ?_
   obtain ⟨y12, hy12⟩ : ∃ y, (d ++ ([0] : List Int))[k]? = some y := ⟨_, List.getElem?_eq_getElem (by first | omega | (simp; done) | (simp; omega))⟩
   obtain ⟨b13, o14, rfl, hbb13⟩ := row_some (rowR_at ((hW).get 1 rfl) elt_U8.len) hy12
   refine st_q (vP (some ⟨b13, o14 + k * 1, none⟩)) hA hW.cls (Rd.indexAddr (e := 29) (sz := 1) (b := b13) (off := o14) (n := (d ++ ([0] : List Int)).length) (c := c10) (k := k) (by kernel_rfl) (by kernel_rfl) (by first | omega | (simp; done) | (simp; omega)) (fun _ => by kernel_rfl) (fun _ => by kernel_rfl)) fun ac hA => st_q (vI .u64 y12) hA hW.cls (Rd.loadRow (b := b13) (i := o14 + k * 1) (xs := [vI .u64 y12]) (by kernel_rfl) (fun _ hw => row_ld (rowR_at ((hw.1).get 1 rfl) elt_U8.len) hy12 (Fr.refl No _) (fun h => h) 0 1 (by kernel_rfl)) (by kernel_rfl)) fun ac hA => st_p (vI .u64 y3) hA fun ac hA => st_q (vI .u64 (max (y12 : Int) (y3 : Int))) hA hW.cls (Rd.pureE (v0 := vI .u64 (if (y3 : Int) > (y12 : Int) then (y3 : Int) else (y12 : Int))) (fun _ => by kernel_rfl) (congrArg (vI .u64) (max_ _ _))) fun ac hA => st_q (vP (some ⟨b13, o14 + k * 1, none⟩)) hA hW.cls (Rd.indexAddr (e := 29) (sz := 1) (b := b13) (off := o14) (n := (d ++ ([0] : List Int)).length) (c := c10) (k := k) (by kernel_rfl) (by kernel_rfl) (by first | omega | (simp; done) | (simp; omega)) (fun _ => by kernel_rfl) (fun _ => by kernel_rfl)) fun ac hA => st_s hA (Runs.storeRow (E := 29) (sz := 1) (en := enU8) (b := b13) (off := o14) (k := k) (n := (d ++ ([0] : List Int)).length) (c := c10) (v := vI .u64 (max (y12 : Int) (y3 : Int))) (max (y12 : Int) (y3 : Int) : Int) elt_U8 (by kernel_rfl) (by kernel_rfl) (by kernel_rfl) (by kernel_rfl) hW (i := 1) rfl (by first | omega | (simp; done) | (simp; omega)) (by first | rfl | omega | (simp; done) | (simp; omega)) ?_); clear hA ac hW; intro w15 hW ac hA
   refine wpList_nil <| blkN <| thenN <| wp_region_lit <| st_q (vI .i64 ((k + 1 : Nat) : Int)) hA hW.cls (Rd.pureE (v0 := vI .i64 (IntKind.i64.wrap ((k : Int) + 1))) (fun _ => by kernel_rfl) (congrArg (vI .i64) ((w_i64 (x := (k : Int) + 1) (by omega) (by omega)).trans (by omega)))) fun ac hA => st_p (vI .i64 ((k + 1 : Nat) : Int)) hA fun ac hA => wn ?_
   have el_ : (d ++ ([0] : List Int)).length = (List.set (d ++ ([0] : List Int)) k (max (y12 : Int) (y3 : Int) : Int)).length := by simp
   rw [el_] at hA hW
   have hlt_ : (c.take k).length = k := by rw [List.length_take]; have := (List.getElem?_eq_some_iff.1 hy3).1; omega
   exact ⟨c.length - (k + 1), by omega, k + 1, List.set (d ++ ([0] : List Int)) k (max (y12 : Int) (y3 : Int) : Int), (some ⟨b13, o14, none⟩), c10, rfl, by omega, by rw [tk_snoc hy3, joinC_end (by rw [hlt_]; omega) (by rw [hlt_, ← hd]; exact hy12), hlt_, ← hd], by first | (rw [List.length_set, List.length_append, List.length_singleton]; omega) | (rw [List.length_set]; omega), by first | (rw [List.length_set, List.length_append, List.length_singleton]; simp at hcc10; omega) | (rw [List.length_set]; omega), hA.sub (by and_intros <;> first | kernel_rfl | trivial), (hW.pick [1] (by decide) rfl).pickG [0] rfl⟩
  have h6 := ne_of_beq_false h6
  refine wp_skip <| thenN <| wp_region_lit <| st_p (vS A d.length cc) hA fun ac hA => st_p (vI .i64 (k : Int)) hA fun ac hA => st_p (vS A d.length cc) hA fun ac hA => st_p (vI .i64 (k : Int)) hA fun ac hA => ?_
  obtain ⟨y16, hy16⟩ : ∃ y, d[k]? = some y := ⟨_, List.getElem?_eq_getElem (by first | omega | (simp; done) | (simp; omega))⟩
  obtain ⟨b17, o18, rfl, hbb17⟩ := row_some (rowR_at ((hW).get 0 rfl) elt_U8.len) hy16
  refine st_q (vP (some ⟨b17, o18 + k * 1, none⟩)) hA hW.cls (Rd.indexAddr (e := 29) (sz := 1) (b := b17) (off := o18) (n := d.length) (c := cc) (k := k) (by kernel_rfl) (by kernel_rfl) (by first | omega | (simp; done) | (simp; omega)) (fun _ => by kernel_rfl) (fun _ => by kernel_rfl)) fun ac hA => st_q (vI .u64 y16) hA hW.cls (Rd.loadRow (b := b17) (i := o18 + k * 1) (xs := [vI .u64 y16]) (by kernel_rfl) (fun _ hw => row_ld (rowR_at ((hw.1).get 0 rfl) elt_U8.len) hy16 (Fr.refl No _) (fun h => h) 0 1 (by kernel_rfl)) (by kernel_rfl)) fun ac hA => st_p (vI .u64 y3) hA fun ac hA => st_q (vI .u64 (max (y16 : Int) (y3 : Int))) hA hW.cls (Rd.pureE (v0 := vI .u64 (if (y3 : Int) > (y16 : Int) then (y3 : Int) else (y16 : Int))) (fun _ => by kernel_rfl) (congrArg (vI .u64) (max_ _ _))) fun ac hA => st_q (vP (some ⟨b17, o18 + k * 1, none⟩)) hA hW.cls (Rd.indexAddr (e := 29) (sz := 1) (b := b17) (off := o18) (n := d.length) (c := cc) (k := k) (by kernel_rfl) (by kernel_rfl) (by first | omega | (simp; done) | (simp; omega)) (fun _ => by kernel_rfl) (fun _ => by kernel_rfl)) fun ac hA => st_s hA (Runs.storeRow (E := 29) (sz := 1) (en := enU8) (b := b17) (off := o18) (k := k) (n := d.length) (c := cc) (v := vI .u64 (max (y16 : Int) (y3 : Int))) (max (y16 : Int) (y3 : Int) : Int) elt_U8 (by kernel_rfl) (by kernel_rfl) (by kernel_rfl) (by kernel_rfl) hW (i := 0) rfl (by first | omega | (simp; done) | (simp; omega)) (by first | rfl | omega | (simp; done) | (simp; omega)) ?_); clear hA ac hW; intro w19 hW ac hA
  refine wpList_nil <| blkN <| thenN <| wp_region_lit <| st_q (vI .i64 ((k + 1 : Nat) : Int)) hA hW.cls (Rd.pureE (v0 := vI .i64 (IntKind.i64.wrap ((k : Int) + 1))) (fun _ => by kernel_rfl) (congrArg (vI .i64) ((w_i64 (x := (k : Int) + 1) (by omega) (by omega)).trans (by omega)))) fun ac hA => st_p (vI .i64 ((k + 1 : Nat) : Int)) hA fun ac hA => wn ?_
  have el_ : d.length = (List.set d k (max (y16 : Int) (y3 : Int) : Int)).length := by simp
  rw [el_] at hA hW
  have hlt_ : (c.take k).length = k := by rw [List.length_take]; have := (List.getElem?_eq_some_iff.1 hy3).1; omega
  exact ⟨c.length - (k + 1), by omega, k + 1, List.set d k (max (y16 : Int) (y3 : Int) : Int), (some ⟨b17, o18, none⟩), cc, rfl, by omega, by rw [tk_snoc hy3, joinC_low (by rw [hlt_]; omega) (by rw [hlt_, ← hd]; exact hy16), hlt_, ← hd], by first | (rw [List.length_set, List.length_append, List.length_singleton]; omega) | (rw [List.length_set]; omega), by rw [List.length_set]; omega, hA.sub (by and_intros <;> first | kernel_rfl | trivial), (hW.pick [0] (by decide) rfl).pickG [0] rfl⟩
 have h2 := of_decide_eq_false h2
 refine wp_exit <| thenX <| thenX <| blkX <| thenN <| wr <| st_p (vS A d.length cc) hA fun ac hA => st_p (vS A d.length cc) hA fun ac hA => wn <| wp_ret <| r1 (vS A d.length cc) hA ?_
 clear hA
 rw [List.take_of_length_le (by omega)] at hd
 exact ⟨A, cc, d, rfl, by exact hd, by omega, (hW.pick [0] (by decide) rfl).updDone 0 rfl⟩

end Go.Proofs.YtoakhhilmnfpkaaGreatDoor.L
