/- Contracts, walked by program over the engine's laws. -/
import Derived.Test.YtoakhhilmnfpkaaGreatDoorProg
import Derived.Test.YtoakhhilmnfpkaaGreatDoorT10
namespace Go.Proofs.YtoakhhilmnfpkaaGreatDoor.L
open Go.RowKit
open Go.Value renaming int → vI, slice → vS, bool → vB, pointer → vP, func → vF, agg → vA, map → vM, tuple → vT

def upC (a b : List Int) : Bool := (List.range a.length).all fun i => decide (getC a (i : Int) ≤ getC b (i : Int))
theorem upC_yes {a b : List Int} {k : Nat} (h : ∀ i : Nat, i < k → getC a (i : Int) ≤ getC b (i : Int)) (hk : a.length ≤ k) : upC a b = true := by
  unfold upC; rw [List.all_eq_true]; intro i hi; exact decide_eq_true (h i (by have := List.mem_range.1 hi; omega))
theorem upC_no {a b : List Int} {k : Nat} {y : Int} (hy : a[k]? = some y) (h : y > getC b (k : Int)) : upC a b = false := by
  unfold upC; rw [List.all_eq_false]
  have hl := (List.getElem?_eq_some_iff.1 hy).1
  refine ⟨k, List.mem_range.2 hl, ?_⟩
  have : getC a (k : Int) = y := by unfold getC; rw [if_neg (by omega), Int.toNat_natCast, hy]; rfl
  rw [this]; simp; omega
theorem upC_at {a b : List Int} (h : upC a b = true) (i : Nat) (hi : i < a.length) : getC a (i : Int) ≤ getC b (i : Int) := by
  unfold upC at h; rw [List.all_eq_true] at h; exact of_decide_eq_true (h i (List.mem_range.2 hi))
theorem upC_refl (a : List Int) : upC a a = true := upC_yes (k := a.length) (fun _ _ => Int.le_refl _) (Nat.le_refl _)
theorem eq_of_up {a b : List Int} (hl : a.length = b.length) (h1 : upC a b = true) (h2 : upC b a = true) : a = b := by
  refine List.ext_getElem hl fun i hi hj => ?_
  have e : ∀ (c : List Int) (h : i < c.length), getC c (i : Int) = c[i] := fun c h => by unfold getC; rw [if_neg (by omega), Int.toNat_natCast, List.getElem?_eq_getElem h]; rfl
  have q1 := upC_at h1 i hi; have q2 := upC_at h2 i hj
  rw [e a hi, e b hj] at q1; rw [e a hi, e b hj] at q2; omega
theorem same_eq {a b : List Int} (hl : a.length = b.length) : (upC a b && upC b a) = decide (a = b) := by
  by_cases h : a = b
  · subst h; rw [upC_refl, decide_eq_true rfl]; rfl
  · rw [decide_eq_false h, Bool.eq_false_iff]; intro q; rw [Bool.and_eq_true] at q; exact h (eq_of_up hl q.1 q.2)
/-- Are events so many at most, of goroutines below 200 (or none's)? -/
def fewOk (l : List Event) (m : Int) : Bool := (l.take (m + 1).toNat).all (fun x => !(evOk x && (decide (x.g ≥ 200) || decide (x.child ≥ 200)))) && decide ((l.length : Int) ≤ m)
theorem few_no {l : List Event} {m : Int} {k : Nat} {y : Event} (hy : l[k]? = some y) (hk : (k : Int) ≤ m) (h : evOk y = true) (h2 : y.g ≥ 200 ∨ y.child ≥ 200) : fewOk l m = false := by
  unfold fewOk
  rw [Bool.and_eq_false_iff]; left
  rw [List.all_eq_false]
  refine ⟨y, List.mem_of_getElem? (i := k) (by rw [List.getElem?_take, if_pos (by omega)]; exact hy), ?_⟩
  rw [h]; simp; omega
theorem few_yes {l : List Event} {m : Int} {k : Nat} (h : ∀ x ∈ l.take k, ¬ (evOk x = true ∧ (x.g ≥ 200 ∨ x.child ≥ 200))) (hk : l.length ≤ k ∨ m < k) (hm : 0 ≤ m) : fewOk l m = decide ((l.length : Int) ≤ m) := by
  unfold fewOk
  rw [List.all_eq_true.2, Bool.true_and]
  intro x hx
  have hx' : x ∈ l.take k := by
    rcases hk with hk | hk
    · rw [List.take_of_length_le hk]; exact List.mem_of_mem_take hx
    · have e : l.take (m + 1).toNat = (l.take k).take (m + 1).toNat := by rw [List.take_take, Nat.min_eq_left (by omega)]
      rw [e] at hx; exact List.mem_of_mem_take hx
  have := h x hx'
  cases e : evOk x
  · rfl
  · rw [e] at this; simp at this ⊢; omega
set_option maxRecDepth 100000 in
theorem e_r4get (A_c : Option Addr) (c_c : Nat) (c : List Int) (id : Int) (w : World) (hr_c : RowAt w A_c 1 enU8 c) (hc_c : c.length ≤ c_c) (hl : c.length ≤ 100000) : Calls Tryz.prog 89 #[vS A_c c.length c_c, vI .i64 id] w (fun e w' => e = .returned (vI .u64 (getC c id)) ∧ Fr No w w') := by
 have _hu := hc_c; have _hv := hr_c; clear _hu _hv
 have _hu := hl; clear _hu
 refine enter_E 17 Tryz.func89 rfl rfl (by kernel_rfl) (L := [(0, vS A_c c.length c_c), (1, vI .i64 id)]) (by kernel_rfl) ?_
 intro ac hA
 have hW := Ws.start w No
 have hW := hW.arg hr_c
 refine wr <| st_p (vI .u64 0) hA ?_; clear hA ac; intro ac hA
 refine wn <| wp_seq <| wr <| st_p (vI .i64 id) hA fun ac hA => st_p (vB (decide ((id : Int) < (0 : Int)))) hA fun ac hA => st_p (vB (decide ((id : Int) < (0 : Int)))) hA fun ac hA => ?_
 rcases Bool.eq_false_or_eq_true (decide ((id : Int) < (0 : Int))) with h1 | h1
 ·
  rw [h1] at hA
  have h1 := of_decide_eq_true h1
  refine st_k hA fun ac hA => st_k hA fun ac hA => st_k hA fun ac hA => st_k hA fun ac hA => st_p (vB true) hA fun ac hA => wn <| wp_cond_true (hA.eval (by kernel_rfl)) <| wr <| st_p (vI .u64 0) hA ?_; clear hA ac; intro ac hA
  refine wn <| wp_ret <| thenR <| r1 (vI .u64 0) hA ?_
  clear hA
  exact ⟨retv (congrArg (vI .u64) (getC_no (by omega)).symm), hW.fr⟩
 rw [h1] at hA
 have h1 := of_decide_eq_false h1
 refine st_p (vI .i64 id) hA fun ac hA => st_p (vS A_c c.length c_c) hA fun ac hA => st_p (vI .i64 (c.length : Int)) hA fun ac hA => st_p (vB (decide ((id : Int) ≥ (c.length : Int)))) hA fun ac hA => st_p (vB (decide ((id : Int) ≥ (c.length : Int)))) hA fun ac hA => wn <| wp_cond_split (t := decide ((id : Int) ≥ (c.length : Int))) (hA.eval (by kernel_rfl)) (fun h2 => ?_) (fun h2 => ?_)
 ·
  have h2 := of_decide_eq_true h2
  refine wr <| st_p (vI .u64 0) hA ?_; clear hA ac; intro ac hA
  refine wn <| wp_ret <| thenR <| r1 (vI .u64 0) hA ?_
  clear hA
  exact ⟨retv (congrArg (vI .u64) (getC_no (by omega)).symm), hW.fr⟩
 have h2 := of_decide_eq_false h2
 refine wp_skip <| thenN <| wr <| st_p (vS A_c c.length c_c) hA fun ac hA => st_p (vI .i64 id) hA fun ac hA => ?_
 obtain ⟨y3, hy3⟩ : ∃ y, c[Int.toNat (id)]? = some y := ⟨_, List.getElem?_eq_getElem (by first | omega | (simp; done) | (simp; omega))⟩
 obtain ⟨b4, o5, rfl, hbb4⟩ := row_some ((hW).getG 0 rfl) hy3
 refine st_q (vP (some ⟨b4, o5 + (Int.toNat (id)) * 1, none⟩)) hA hW.cls (Rd.indexAddrI (e := 29) (sz := 1) (b := b4) (off := o5) (n := c.length) (c := c_c) (k := id) (by kernel_rfl) (by kernel_rfl) (by omega) (by first | omega | (simp; done) | (simp; omega)) (fun _ => by kernel_rfl) (fun _ => by kernel_rfl)) fun ac hA => st_q (vI .u64 y3) hA hW.cls (Rd.loadRow (b := b4) (i := o5 + (Int.toNat (id)) * 1) (xs := [vI .u64 y3]) (by kernel_rfl) (fun _ hw => row_ld ((hw.1).getG 0 rfl) hy3 (Fr.refl No _) (fun h => h) 0 1 (by kernel_rfl)) (by kernel_rfl)) fun ac hA => st_p (vI .u64 y3) hA fun ac hA => wn <| wp_ret <| r1 (vI .u64 y3) hA ?_
 clear hA
 exact ⟨retv (congrArg (vI .u64) (getC_at (by omega) hy3)), hW.fr⟩

set_option maxRecDepth 100000 in
theorem e_r4upto (A_a : Option Addr) (c_a : Nat) (a : List Int) (A_b : Option Addr) (c_b : Nat) (b : List Int) (w : World) (hr_a : RowAt w A_a 1 enU8 a) (hc_a : a.length ≤ c_a) (hr_b : RowAt w A_b 1 enU8 b) (hc_b : b.length ≤ c_b) (hla : a.length ≤ 100000) (hlb : b.length ≤ 100000) : Calls Tryz.prog 103 #[vS A_a a.length c_a, vS A_b b.length c_b] w (fun e w' => e = .returned (vB (upC a b)) ∧ Fr No w w') := by
 have _hu := hc_a; have _hv := hr_a; clear _hu _hv
 have _hu := hc_b; have _hv := hr_b; clear _hu _hv
 have _hu := hla; clear _hu
 have _hu := hlb; clear _hu
 refine enter_E 20 Tryz.func103 rfl rfl (by kernel_rfl) (L := [(0, vS A_a a.length c_a), (1, vS A_b b.length c_b)]) (by kernel_rfl) ?_
 intro ac hA
 have hW := Ws.start w No
 have hW := hW.arg hr_a
 have hW := hW.arg hr_b
 refine wr <| st_p (vB false) hA ?_; clear hA ac; intro ac hA
 refine wn <| wp_seq <| wr <| st_p (vI .i64 0) hA ?_; clear hA ac; intro ac hA
 refine wn <| wp_block <| wp_loop_m (fun m_ ac_ wl_ => ∃ k : Nat, m_ = a.length - k ∧ (k ≤ a.length) ∧ (∀ i : Nat, i < k → getC a (i : Int) ≤ getC b (i : Int)) ∧ Fm 20 [] [(0, vS A_a a.length c_a), (1, vS A_b b.length c_b), (5, vI .i64 (k : Int))] ac_ ∧ Ws w No [] [roR A_b 1 enU8 b, roR A_a 1 enU8 a] wl_) _ ⟨0, rfl, by omega, by intro i hi; omega, hA.sub (by and_intros <;> first | kernel_rfl | trivial), (hW.pick [] (by decide) rfl).pickG [0, 1] rfl⟩ ?_
 clear hA ac hW; rintro m_ ac w1 ⟨k, rfl, hk, hn, hA, hW⟩
 refine wp_seq <| wr <| st_p (vI .i64 (k : Int)) hA fun ac hA => st_p (vS A_a a.length c_a) hA fun ac hA => st_p (vI .i64 (a.length : Int)) hA fun ac hA => st_p (vB (decide ((k : Int) < (a.length : Int)))) hA fun ac hA => wn <| wp_cond_split (t := decide ((k : Int) < (a.length : Int))) (hA.eval (by kernel_rfl)) (fun h2 => ?_) (fun h2 => ?_)
 ·
  have h2 := of_decide_eq_true h2
  refine wp_skip <| thenN <| wp_seq <| wp_block <| wp_seq <| q_region (by kernel_rfl) (by kernel_rfl) hW <| sq_p (vS A_a a.length c_a) hA fun ac hA => sq_p (vI .i64 (k : Int)) hA fun ac hA => ?_
  obtain ⟨y3, hy3⟩ : ∃ y, a[k]? = some y := ⟨_, List.getElem?_eq_getElem (by first | omega | (simp; done) | (simp; omega))⟩
  obtain ⟨b4, o5, rfl, hbb4⟩ := row_some ((hW).getG 1 rfl) hy3
  refine sq_q (vP (some ⟨b4, o5 + k * 1, none⟩)) hA (Rd.indexAddr (e := 29) (sz := 1) (b := b4) (off := o5) (n := a.length) (c := c_a) (k := k) (by kernel_rfl) (by kernel_rfl) (by first | omega | (simp; done) | (simp; omega)) (fun _ => by kernel_rfl) (fun _ => by kernel_rfl)) fun ac hA => sq_q (vI .u64 y3) hA (Rd.loadRow (b := b4) (i := o5 + k * 1) (xs := [vI .u64 y3]) (by kernel_rfl) (fun _ hw => row_ld ((hw.1).getG 1 rfl) hy3 (Fr.refl No _) (fun h => h) 0 1 (by kernel_rfl)) (by kernel_rfl)) fun ac hA => sq_p (vS A_b b.length c_b) hA fun ac hA => sq_p (vI .i64 (k : Int)) hA fun ac hA => sq_call (v := vI .u64 (getC b (k : Int))) hA (by kernel_rfl) (by kernel_rfl) (by kernel_rfl) (fun _ => by kernel_rfl) (Cls.callNC fun wx hwx => e_r4get A_b c_b b (k : Int) wx ((hwx.1).getG 0 rfl) (by first | assumption | omega | (simp; omega) | simp) (by first | omega | assumption)) ?_; clear hA ac; intro ac hA
  refine sq_p (vB (decide ((y3 : Int) > (getC b (k : Int) : Int)))) hA ?_; clear hA ac; intro ac hA
  refine sq_nil ?_; intro w6 hww6; have hW := hww6.1; have hfw6 := hww6.2; clear hww6
  refine thenN <| wp_cond_split (t := decide ((y3 : Int) > (getC b (k : Int) : Int))) (hA.eval (by kernel_rfl)) (fun h7 => ?_) (fun h7 => ?_)
  ·
   have h7 := of_decide_eq_true h7
   refine wr <| st_p (vB false) hA ?_; clear hA ac; intro ac hA
   refine wn <| wp_ret <| blkR <| thenR <| thenR <| blkR <| thenR <| r1 (vB false) hA ?_
   clear hA
   exact ⟨retv (congrArg vB (upC_no hy3 h7).symm), hW.fr⟩
  have h7 := of_decide_eq_false h7
  refine wp_skip <| blkN <| thenN <| wp_region_lit <| st_p (vI .i64 (k : Int)) hA fun ac hA => st_q (vI .i64 ((k + 1 : Nat) : Int)) hA hW.cls (Rd.pureE (v0 := vI .i64 (IntKind.i64.wrap ((k : Int) + 1))) (fun _ => by kernel_rfl) (congrArg (vI .i64) ((w_i64 (x := (k : Int) + 1) (by omega) (by omega)).trans (by omega)))) fun ac hA => st_p (vI .i64 ((k + 1 : Nat) : Int)) hA fun ac hA => wn ?_
  exact ⟨a.length - (k + 1), by omega, k + 1, rfl, by omega, by intro i hi; by_cases q : i < k; exact hn i q; (rw [show i = k from by omega, show getC a (k : Int) = y3 from by unfold getC; rw [if_neg (by omega), Int.toNat_natCast, hy3]; rfl]; omega), hA.sub (by and_intros <;> first | kernel_rfl | trivial), (hW.pick [] (by decide) rfl).pickG [0, 1] rfl⟩
 have h2 := of_decide_eq_false h2
 refine wp_exit <| thenX <| thenX <| blkX <| thenN <| wr <| st_p (vB true) hA ?_; clear hA ac; intro ac hA
 refine wn <| wp_ret <| r1 (vB true) hA ?_
 clear hA
 exact ⟨retv (congrArg vB (upC_yes hn (by omega)).symm), hW.fr⟩

set_option maxRecDepth 100000 in
theorem e_r4same (A_a : Option Addr) (c_a : Nat) (a : List Int) (A_b : Option Addr) (c_b : Nat) (b : List Int) (w : World) (hr_a : RowAt w A_a 1 enU8 a) (hc_a : a.length ≤ c_a) (hr_b : RowAt w A_b 1 enU8 b) (hc_b : b.length ≤ c_b) (hla : a.length ≤ 100000) (hlb : b.length ≤ 100000) : Calls Tryz.prog 65 #[vS A_a a.length c_a, vS A_b b.length c_b] w (fun e w' => e = .returned (vB (upC a b && upC b a)) ∧ Fr No w w') := by
 have _hu := hc_a; have _hv := hr_a; clear _hu _hv
 have _hu := hc_b; have _hv := hr_b; clear _hu _hv
 have _hu := hla; clear _hu
 have _hu := hlb; clear _hu
 refine enter_E 13 Tryz.func65 rfl rfl (by kernel_rfl) (L := [(0, vS A_a a.length c_a), (1, vS A_b b.length c_b)]) (by kernel_rfl) ?_
 intro ac hA
 have hW := Ws.start w No
 have hW := hW.arg hr_a
 have hW := hW.arg hr_b
 refine wr <| st_p (vB false) hA ?_; clear hA ac; intro ac hA
 refine wn <| wr <| st_p (vS A_a a.length c_a) hA fun ac hA => st_p (vS A_b b.length c_b) hA fun ac hA => st_s hA (Runs.callN (v := vB (upC a b)) (fun _ => by kernel_rfl) hW (e_r4upto A_a c_a a A_b c_b b w ((hW).getG 1 rfl) (by first | assumption | omega | (simp; omega) | simp) ((hW).getG 0 rfl) (by first | assumption | omega | (simp; omega) | simp) (by first | omega | assumption) (by first | omega | assumption)) ?_); clear hA ac hW; intro w1 hW hfw1 ac hA
 refine st_p (vB (upC a b)) hA ?_; clear hA ac; intro ac hA
 rcases Bool.eq_false_or_eq_true (upC a b) with h2 | h2
 ·
  rw [h2] at hA
  refine st_p (vS A_b b.length c_b) hA fun ac hA => st_p (vS A_a a.length c_a) hA fun ac hA => st_s hA (Runs.callN (v := vB (upC b a)) (fun _ => by kernel_rfl) hW (e_r4upto A_b c_b b A_a c_a a w1 ((hW).getG 0 rfl) (by first | assumption | omega | (simp; omega) | simp) ((hW).getG 1 rfl) (by first | assumption | omega | (simp; omega) | simp) (by first | omega | assumption) (by first | omega | assumption)) ?_); clear hA ac hW; intro w3 hW hfw3 ac hA
  refine st_p (vB (upC b a)) hA fun ac hA => st_p (vB (upC b a)) hA fun ac hA => wn <| wp_ret <| r1 (vB (upC b a)) hA ?_
  clear hA
  exact ⟨retv (by rw [h2]; rfl), hW.fr⟩
 rw [h2] at hA
 refine st_k hA fun ac hA => st_k hA fun ac hA => st_k hA fun ac hA => st_p (vB false) hA fun ac hA => st_p (vB false) hA fun ac hA => wn <| wp_ret <| r1 (vB false) hA ?_
 clear hA
 exact ⟨retv (by rw [h2]; rfl), hW.fr⟩

set_option maxRecDepth 100000 in
theorem e_r4equal (A_a : Option Addr) (c_a : Nat) (a : List Int) (A_b : Option Addr) (c_b : Nat) (b : List Int) (w : World) (hr_a : RowAt w A_a 1 enU8 a) (hc_a : a.length ≤ c_a) (hr_b : RowAt w A_b 1 enU8 b) (hc_b : b.length ≤ c_b) (hla : a.length ≤ 100000) (hlb : b.length ≤ 100000) : Calls Tryz.prog 30 #[vS A_a a.length c_a, vS A_b b.length c_b] w (fun e w' => e = .returned (vB (decide (a = b))) ∧ Fr No w w') := by
 have _hu := hc_a; have _hv := hr_a; clear _hu _hv
 have _hu := hc_b; have _hv := hr_b; clear _hu _hv
 have _hu := hla; clear _hu
 have _hu := hlb; clear _hu
 refine enter_E 15 Tryz.func30 rfl rfl (by kernel_rfl) (L := [(0, vS A_a a.length c_a), (1, vS A_b b.length c_b)]) (by kernel_rfl) ?_
 intro ac hA
 have hW := Ws.start w No
 have hW := hW.arg hr_a
 have hW := hW.arg hr_b
 refine wr <| st_p (vB false) hA ?_; clear hA ac; intro ac hA
 refine wn <| wr <| st_p (vS A_a a.length c_a) hA fun ac hA => st_p (vI .i64 (a.length : Int)) hA fun ac hA => st_p (vS A_b b.length c_b) hA fun ac hA => st_p (vI .i64 (b.length : Int)) hA fun ac hA => st_p (vB ((a.length : Int) == (b.length : Int))) hA fun ac hA => st_p (vB ((a.length : Int) == (b.length : Int))) hA fun ac hA => ?_
 rcases Bool.eq_false_or_eq_true ((a.length : Int) == (b.length : Int)) with h1 | h1
 ·
  rw [h1] at hA
  have h1 := eq_of_beq h1
  refine st_p (vS A_a a.length c_a) hA fun ac hA => st_p (vS A_b b.length c_b) hA fun ac hA => st_s hA (Runs.callN (v := vB (upC a b && upC b a)) (fun _ => by kernel_rfl) hW (e_r4same A_a c_a a A_b c_b b w ((hW).getG 1 rfl) (by first | assumption | omega | (simp; omega) | simp) ((hW).getG 0 rfl) (by first | assumption | omega | (simp; omega) | simp) (by first | omega | assumption) (by first | omega | assumption)) ?_); clear hA ac hW; intro w2 hW hfw2 ac hA
  refine st_p (vB (upC a b && upC b a)) hA fun ac hA => st_p (vB (upC a b && upC b a)) hA fun ac hA => wn <| wp_ret <| r1 (vB (upC a b && upC b a)) hA ?_
  clear hA
  exact ⟨retv (congrArg vB (same_eq (by omega))), hW.fr⟩
 rw [h1] at hA
 have h1 := ne_of_beq_false h1
 refine st_k hA fun ac hA => st_k hA fun ac hA => st_k hA fun ac hA => st_p (vB false) hA fun ac hA => st_p (vB false) hA fun ac hA => wn <| wp_ret <| r1 (vB false) hA ?_
 clear hA
 exact ⟨retv (congrArg vB (decide_eq_false (fun e_ => h1 (by rw [e_]))).symm), hW.fr⟩

set_option maxRecDepth 100000 in
theorem e_lfew (A_l : Option Addr) (c_l : Nat) (l : List Event) (m : Int) (w : World) (hr_l : RowAt w A_l 9 enEvent l) (hc_l : l.length ≤ c_l) (hl : l.length ≤ 9223372036854775807) (hel : ∀ x ∈ l, (-9223372036854775808 ≤ x.kind ∧ x.kind ≤ 9223372036854775807) ∧ 0 ≤ x.addr ∧ x.addr ≤ 4294967295) (hm : 0 ≤ m) (hm2 : m ≤ 1000) : Calls Tryz.prog 8 #[vS A_l l.length c_l, vI .i64 m] w (fun e w' => e = .returned (vB (fewOk l m)) ∧ Fr No w w') := by
 have _hu := hc_l; have _hv := hr_l; clear _hu _hv
 have _hu := hl; clear _hu
 have _hu := hel; clear _hu
 have _hu := hm; clear _hu
 have _hu := hm2; clear _hu
 refine enter_E 42 Tryz.func8 rfl rfl (by kernel_rfl) (L := [(0, vS A_l l.length c_l), (1, vI .i64 m)]) (by kernel_rfl) ?_
 intro ac hA
 have hW := Ws.start w No
 have hW := hW.arg hr_l
 refine wr <| st_p (vB false) hA ?_; clear hA ac; intro ac hA
 refine wn <| wp_seq <| wr <| st_p (vI .i64 0) hA ?_; clear hA ac; intro ac hA
 refine wn <| wp_block <| wp_loop_m (fun m_ ac_ wl_ => ∃ k : Nat, m_ = l.length - k ∧ (k ≤ l.length) ∧ (∀ x ∈ l.take k, ¬ (evOk x = true ∧ (x.g ≥ 200 ∨ x.child ≥ 200))) ∧ ((k : Int) ≤ m + 1) ∧ Fm 42 [] [(0, vS A_l l.length c_l), (1, vI .i64 m), (5, vI .i64 (k : Int))] ac_ ∧ Ws w No [] [roR A_l 9 enEvent l] wl_) _ ⟨0, rfl, by omega, by intro x hx; simp at hx, by omega, hA.sub (by and_intros <;> first | kernel_rfl | trivial), (hW.pick [] (by decide) rfl).pickG [0] rfl⟩ ?_
 clear hA ac hW; rintro m_ ac w1 ⟨k, rfl, hk, hn, hkm, hA, hW⟩
 refine wp_seq <| wr <| st_p (vI .i64 (k : Int)) hA fun ac hA => st_p (vS A_l l.length c_l) hA fun ac hA => st_p (vI .i64 (l.length : Int)) hA fun ac hA => st_p (vB (decide ((k : Int) < (l.length : Int)))) hA fun ac hA => st_p (vB (decide ((k : Int) < (l.length : Int)))) hA fun ac hA => ?_
 rcases Bool.eq_false_or_eq_true (decide ((k : Int) < (l.length : Int))) with h2 | h2
 ·
  rw [h2] at hA
  have h2 := of_decide_eq_true h2
  refine st_p (vI .i64 (k : Int)) hA fun ac hA => st_p (vI .i64 m) hA fun ac hA => st_p (vB (decide ((k : Int) ≤ (m : Int)))) hA fun ac hA => st_p (vB (decide ((k : Int) ≤ (m : Int)))) hA fun ac hA => wn <| wp_cond_split (t := decide ((k : Int) ≤ (m : Int))) (hA.eval (by kernel_rfl)) (fun h3 => ?_) (fun h3 => ?_)
  ·
   have h3 := of_decide_eq_true h3
   refine wp_skip <| thenN <| wp_seq <| wp_block <| wr <| st_p (vS A_l l.length c_l) hA fun ac hA => st_p (vI .i64 (k : Int)) hA fun ac hA => ?_
   obtain ⟨y4, hy4⟩ : ∃ y, l[k]? = some y := ⟨_, List.getElem?_eq_getElem (by first | omega | (simp; done) | (simp; omega))⟩
   obtain ⟨b5, o6, rfl, hbb5⟩ := row_some ((hW).getG 0 rfl) hy4
   refine st_q (vP (some ⟨b5, o6 + k * 9, none⟩)) hA hW.cls (Rd.indexAddr (e := 43) (sz := 9) (b := b5) (off := o6) (n := l.length) (c := c_l) (k := k) (by kernel_rfl) (by kernel_rfl) (by first | omega | (simp; done) | (simp; omega)) (fun _ => by kernel_rfl) (fun _ => by kernel_rfl)) fun ac hA => st_q (vA #[vI .i64 y4.g, vI .i64 y4.kind, vI .i64 y4.site.f, vI .i64 y4.site.pc, vI .u32 y4.addr, vI .i64 y4.child, vI .i64 y4.obj, vI .i64 y4.n, vI .i64 y4.trap]) hA hW.cls (Rd.loadRow (b := b5) (i := o6 + k * 9) (xs := [vI .i64 y4.g, vI .i64 y4.kind, vI .i64 y4.site.f, vI .i64 y4.site.pc, vI .u32 y4.addr, vI .i64 y4.child, vI .i64 y4.obj, vI .i64 y4.n, vI .i64 y4.trap]) (by kernel_rfl) (fun _ hw => row_ld ((hw.1).getG 0 rfl) hy4 (Fr.refl No _) (fun h => h) 0 9 (by kernel_rfl)) (by kernel_rfl)) fun ac hA => st_s hA (Runs.callN (v := vB (evOk y4)) (fun _ => by kernel_rfl) hW (e_r16right y4 w1 (by first | omega | assumption | exact (hel _ (List.mem_of_getElem? (by assumption))).1)) ?_); clear hA ac hW; intro w7 hW hfw7 ac hA
   refine st_p (vB (evOk y4)) hA ?_; clear hA ac; intro ac hA
   rcases Bool.eq_false_or_eq_true (evOk y4) with h8 | h8
   ·
    rw [h8] at hA
    refine st_p (vS (some ⟨b5, o6, none⟩) l.length c_l) hA fun ac hA => st_p (vI .i64 (k : Int)) hA fun ac hA => st_q (vP (some ⟨b5, o6 + k * 9, none⟩)) hA hW.cls (Rd.indexAddr (e := 43) (sz := 9) (b := b5) (off := o6) (n := l.length) (c := c_l) (k := k) (by kernel_rfl) (by kernel_rfl) (by first | omega | (simp; done) | (simp; omega)) (fun _ => by kernel_rfl) (fun _ => by kernel_rfl)) fun ac hA => st_p (vP (some ⟨b5, o6 + k * 9, none⟩)) hA fun ac hA => st_q (vI .i64 y4.g) hA hW.cls (Rd.loadRow (b := b5) (i := o6 + k * 9) (xs := [vI .i64 y4.g]) (by kernel_rfl) (fun _ hw => row_ld ((hw.1).getG 0 rfl) hy4 (Fr.refl No _) (fun h => h) 0 1 (by kernel_rfl)) (by kernel_rfl)) fun ac hA => st_p (vB (decide ((y4.g : Int) ≥ (200 : Int)))) hA fun ac hA => st_p (vB (decide ((y4.g : Int) ≥ (200 : Int)))) hA fun ac hA => ?_
    rcases Bool.eq_false_or_eq_true (decide ((y4.g : Int) ≥ (200 : Int))) with h9 | h9
    ·
     rw [h9] at hA
     have h9 := of_decide_eq_true h9
     refine st_k hA fun ac hA => st_k hA fun ac hA => st_k hA fun ac hA => st_k hA fun ac hA => st_k hA fun ac hA => st_k hA fun ac hA => st_p (vB true) hA fun ac hA => st_p (vB true) hA fun ac hA => wn <| wp_cond_true (hA.eval (by kernel_rfl)) <| wr <| st_p (vB false) hA ?_; clear hA ac; intro ac hA
     refine wn <| wp_ret <| blkR <| thenR <| thenR <| blkR <| thenR <| r1 (vB false) hA ?_
     clear hA
     exact ⟨retv (congrArg vB (few_no hy4 (by omega) h8 (by omega)).symm), hW.fr⟩
    rw [h9] at hA
    have h9 := of_decide_eq_false h9
    refine st_p (vS (some ⟨b5, o6, none⟩) l.length c_l) hA fun ac hA => st_p (vI .i64 (k : Int)) hA fun ac hA => st_q (vP (some ⟨b5, o6 + k * 9, none⟩)) hA hW.cls (Rd.indexAddr (e := 43) (sz := 9) (b := b5) (off := o6) (n := l.length) (c := c_l) (k := k) (by kernel_rfl) (by kernel_rfl) (by first | omega | (simp; done) | (simp; omega)) (fun _ => by kernel_rfl) (fun _ => by kernel_rfl)) fun ac hA => st_p (vP (some ⟨b5, o6 + k * 9 + 5, none⟩)) hA fun ac hA => st_q (vI .i64 y4.child) hA hW.cls (Rd.loadRow (b := b5) (i := o6 + k * 9 + 5) (xs := [vI .i64 y4.child]) (by kernel_rfl) (fun _ hw => row_ld ((hw.1).getG 0 rfl) hy4 (Fr.refl No _) (fun h => h) 5 1 (by kernel_rfl)) (by kernel_rfl)) fun ac hA => st_p (vB (decide ((y4.child : Int) ≥ (200 : Int)))) hA fun ac hA => st_p (vB (decide ((y4.child : Int) ≥ (200 : Int)))) hA fun ac hA => st_p (vB (decide ((y4.child : Int) ≥ (200 : Int)))) hA fun ac hA => wn <| wp_cond_split (t := decide ((y4.child : Int) ≥ (200 : Int))) (hA.eval (by kernel_rfl)) (fun h10 => ?_) (fun h10 => ?_)
    ·
     have h10 := of_decide_eq_true h10
     refine wr <| st_p (vB false) hA ?_; clear hA ac; intro ac hA
     refine wn <| wp_ret <| blkR <| thenR <| thenR <| blkR <| thenR <| r1 (vB false) hA ?_
     clear hA
     exact ⟨retv (congrArg vB (few_no hy4 (by omega) h8 (by omega)).symm), hW.fr⟩
    have h10 := of_decide_eq_false h10
    refine wp_skip <| blkN <| thenN <| wp_region_lit <| st_p (vI .i64 (k : Int)) hA fun ac hA => st_q (vI .i64 ((k + 1 : Nat) : Int)) hA hW.cls (Rd.pureE (v0 := vI .i64 (IntKind.i64.wrap ((k : Int) + 1))) (fun _ => by kernel_rfl) (congrArg (vI .i64) ((w_i64 (x := (k : Int) + 1) (by omega) (by omega)).trans (by omega)))) fun ac hA => st_p (vI .i64 ((k + 1 : Nat) : Int)) hA fun ac hA => wn ?_
    exact ⟨l.length - (k + 1), by omega, k + 1, rfl, by omega, by intro x hx; rw [tk_snoc hy4] at hx; rcases List.mem_append.1 hx with hx | hx; exact hn x hx; (rw [List.mem_singleton.1 hx]; rintro ⟨-, q_⟩; omega), by omega, hA.sub (by and_intros <;> first | kernel_rfl | trivial), (hW.pick [] (by decide) rfl).pickG [0] rfl⟩
   rw [h8] at hA
   refine st_k hA fun ac hA => st_k hA fun ac hA => st_k hA fun ac hA => st_k hA fun ac hA => st_k hA fun ac hA => st_k hA fun ac hA => st_k hA fun ac hA => st_k hA fun ac hA => st_k hA fun ac hA => st_k hA fun ac hA => st_k hA fun ac hA => st_k hA fun ac hA => st_k hA fun ac hA => st_k hA fun ac hA => st_p (vB false) hA fun ac hA => wn <| wp_cond_false (hA.eval (by kernel_rfl)) <| wp_skip <| blkN <| thenN <| wp_region_lit <| st_p (vI .i64 (k : Int)) hA fun ac hA => st_q (vI .i64 ((k + 1 : Nat) : Int)) hA hW.cls (Rd.pureE (v0 := vI .i64 (IntKind.i64.wrap ((k : Int) + 1))) (fun _ => by kernel_rfl) (congrArg (vI .i64) ((w_i64 (x := (k : Int) + 1) (by omega) (by omega)).trans (by omega)))) fun ac hA => st_p (vI .i64 ((k + 1 : Nat) : Int)) hA fun ac hA => wn ?_
   exact ⟨l.length - (k + 1), by omega, k + 1, rfl, by omega, by intro x hx; rw [tk_snoc hy4] at hx; rcases List.mem_append.1 hx with hx | hx; exact hn x hx; (rw [List.mem_singleton.1 hx]; rintro ⟨q_, -⟩; rw [h8] at q_; cases q_), by omega, hA.sub (by and_intros <;> first | kernel_rfl | trivial), (hW.pick [] (by decide) rfl).pickG [0] rfl⟩
  have h3 := of_decide_eq_false h3
  refine wp_exit <| thenX <| thenX <| blkX <| thenN <| wr <| st_p (vS A_l l.length c_l) hA fun ac hA => st_p (vI .i64 (l.length : Int)) hA fun ac hA => st_p (vI .i64 m) hA fun ac hA => st_p (vB (decide ((l.length : Int) ≤ (m : Int)))) hA fun ac hA => st_p (vB (decide ((l.length : Int) ≤ (m : Int)))) hA fun ac hA => wn <| wp_ret <| r1 (vB (decide ((l.length : Int) ≤ (m : Int)))) hA ?_
  clear hA
  exact ⟨retv (congrArg vB (few_yes hn (by omega) hm).symm), hW.fr⟩
 rw [h2] at hA
 have h2 := of_decide_eq_false h2
 refine st_k hA fun ac hA => st_k hA fun ac hA => st_k hA fun ac hA => st_p (vB false) hA fun ac hA => wn <| wp_cond_false (hA.eval (by kernel_rfl)) <| wp_exit <| thenX <| thenX <| blkX <| thenN <| wr <| st_p (vS A_l l.length c_l) hA fun ac hA => st_p (vI .i64 (l.length : Int)) hA fun ac hA => st_p (vI .i64 m) hA fun ac hA => st_p (vB (decide ((l.length : Int) ≤ (m : Int)))) hA fun ac hA => st_p (vB (decide ((l.length : Int) ≤ (m : Int)))) hA fun ac hA => wn <| wp_ret <| r1 (vB (decide ((l.length : Int) ≤ (m : Int)))) hA ?_
 clear hA
 exact ⟨retv (congrArg vB (few_yes hn (by omega) hm).symm), hW.fr⟩

set_option maxRecDepth 100000 in
theorem e_num (n_ : Int) (w : World)  : Calls Tryz.prog 11 #[vI .i64 n_] w (fun e w' => e = .returned (vI .i64 n_) ∧ Fr No w w') := by
 refine enter_E 4 Tryz.func11 rfl rfl (by kernel_rfl) (L := [(0, vI .i64 n_)]) (by kernel_rfl) ?_
 intro ac hA
 have hW := Ws.start w No
 refine wr <| st_p (vI .i64 0) hA ?_; clear hA ac; intro ac hA
 refine wn <| wr <| st_p (vI .i64 n_) hA fun ac hA => st_p (vI .i64 n_) hA fun ac hA => wn <| wp_ret <| r1 (vI .i64 n_) hA ?_
 clear hA
 exact ⟨retv (by rfl), hW.fr⟩


end Go.Proofs.YtoakhhilmnfpkaaGreatDoor.L
