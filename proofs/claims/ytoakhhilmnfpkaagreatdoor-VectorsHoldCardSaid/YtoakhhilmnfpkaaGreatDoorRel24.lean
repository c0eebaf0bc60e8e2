/- The plain law of clocks that tick at releases: one event is before another one of another goroutine just if that one had its epoch. Nothing of the program is walked here. -/
import Derived.Test.YtoakhhilmnfpkaaGreatDoorT8
namespace Go.Proofs.YtoakhhilmnfpkaaGreatDoor.L
open Go.RowKit

theorem getC_nat (c : List Int) (i : Nat) : getC c (i : Int) = (c[i]?).getD 0 := by unfold getC; rw [if_neg (by omega), Int.toNat_natCast]
theorem getC_neg {c : List Int} {i : Int} (h : i < 0) : getC c i = 0 := by unfold getC; rw [if_pos h]
theorem getC_ext {a b : List Int} (h : ∀ i : Nat, getC a (i : Int) = getC b (i : Int)) (i : Int) : getC a i = getC b i := by
  by_cases q : i < 0
  · rw [getC_neg q, getC_neg q]
  · have := h i.toNat; rwa [Int.toNat_of_nonneg (by omega)] at this
theorem trim_snoc0 (c : List Int) : trimC (c ++ [0]) = trimC c := by unfold trimC; simp
theorem trim_snoc {c : List Int} {y : Int} (h : y ≠ 0) : trimC (c ++ [y]) = c ++ [y] := by unfold trimC; simp [h]
theorem getC_trim (c : List Int) (i : Int) : getC (trimC c) i = getC c i := by
  refine getC_ext (fun i => ?_) i
  rw [← List.reverse_reverse c]
  generalize c.reverse = r
  induction r with
  | nil => rfl
  | cons y r ih =>
    rw [List.reverse_cons]
    by_cases hy : y = 0
    · subst hy
      rw [trim_snoc0, ih, getC_nat, getC_nat, List.getElem?_append]
      split
      · rfl
      · rename_i h
        rw [List.getElem?_eq_none (by omega)]
        cases e : ([0] : List Int)[i - r.reverse.length]? with
        | none => rfl
        | some z =>
          have := List.mem_of_getElem? e; rw [List.mem_singleton] at this; subst this; rfl
    · rw [trim_snoc hy]
theorem getC_join : ∀ (a b : List Int) (i : Nat), (∀ i : Nat, 0 ≤ getC a (i : Int)) → getC (joinC a b) (i : Int) = max (getC a (i : Int)) (getC b (i : Int))
  | s, [], i, h => by rw [joinC_nil, show getC ([] : List Int) (i : Int) = 0 from by rw [getC_nat]; rfl]; have := h i; omega
  | [], n :: c, 0, h => by rw [getC_nat, getC_nat, getC_nat]; simp [joinC]
  | [], n :: c, i + 1, h => by
    have ih := getC_join [] c i h
    rw [getC_nat, getC_nat, getC_nat] at ih ⊢
    simpa [joinC] using ih
  | x :: s, n :: c, 0, h => by rw [getC_nat, getC_nat, getC_nat]; simp [joinC]
  | x :: s, n :: c, i + 1, h => by
    have ih := getC_join s c i (fun q => by have := h (q + 1); rw [getC_nat] at this ⊢; simpa using this)
    rw [getC_nat, getC_nat, getC_nat] at ih ⊢
    simpa [joinC] using ih
def NN0 (c : List Int) : Prop := ∀ g, 0 ≤ getC c g
theorem getC_nil (g : Int) : getC ([] : List Int) g = 0 := by unfold getC; split <;> simp
theorem getC_join2 {a b : List Int} (ha : NN0 a) (g : Int) : getC (join2 a b) g = max (getC a g) (getC b g) := by
  unfold join2
  rw [getC_trim]
  by_cases q : g < 0
  · rw [getC_neg q, getC_neg q, getC_neg q]; rfl
  · have e : g = ((g.toNat : Nat) : Int) := by omega
    rw [e]
    have h1 : ∀ i : Nat, getC (joinC [] a) (i : Int) = getC a (i : Int) := fun i => by
      rw [getC_join [] a i (fun i => by rw [getC_nil]; exact Int.le_refl _), getC_nil]; have := ha (i : Int); omega
    rw [getC_join _ _ _ (fun i => by rw [h1]; exact ha _), h1]
theorem getC_tick (c : List Int) {id : Int} (h0 : 0 ≤ id) (g : Int) : getC (tick1 c id) g = if g = id then getC c id + 1 else getC c g := by
  unfold tick1
  rw [getC_trim]
  have hpad : ∀ i : Nat, ((padC c id)[i]?).getD 0 = (c[i]?).getD 0 := fun i => by
    unfold padC
    rw [List.getElem?_append]
    split
    · rfl
    · rename_i h
      rw [List.getElem?_eq_none (l := c) (by omega), List.getElem?_replicate]
      split <;> rfl
  by_cases q : g < 0
  · rw [getC_neg q, getC_neg q, if_neg (by omega)]
  · have e : g = ((g.toNat : Nat) : Int) := by omega
    rw [e, getC_nat, getC_nat, List.getElem?_set]
    by_cases hg : g = id
    · rw [if_pos (by omega), if_pos (by rw [pad_len]; omega), if_pos (by omega)]; rfl
    · rw [if_neg (by omega), if_neg (by omega)]; exact hpad _

/-! ### which are ahead -/
inductive Hb (E : List Event) : Nat → Nat → Prop
  | one {k j : Nat} {a b : Event} : E[k]? = some a → E[j]? = some b → k < j → EvLeads a b → Hb E k j
  | step {i k j : Nat} {a b : Event} : Hb E i k → E[k]? = some a → E[j]? = some b → k < j → EvLeads a b → Hb E i j
theorem Hb.lt {E : List Event} {i j : Nat} (h : Hb E i j) : i < j := by
  induction h with
  | one _ _ h _ => exact h
  | step _ _ _ h _ ih => omega
theorem Hb.rng {E : List Event} {i j : Nat} (h : Hb E i j) : j < E.length := by
  cases h with
  | one _ h _ _ => exact (List.getElem?_eq_some_iff.1 h).1
  | step _ _ h _ _ => exact (List.getElem?_eq_some_iff.1 h).1
theorem Hb.iff {E : List Event} {i j : Nat} : Hb E i j ↔ ∃ k a b, k < j ∧ E[k]? = some a ∧ E[j]? = some b ∧ EvLeads a b ∧ (k = i ∨ Hb E i k) := by
  constructor
  · intro h
    cases h with
    | one h1 h2 h3 h4 => exact ⟨_, _, _, h3, h1, h2, h4, .inl rfl⟩
    | step h h1 h2 h3 h4 => exact ⟨_, _, _, h3, h1, h2, h4, .inr h⟩
  · rintro ⟨k, a, b, h3, h1, h2, h4, rfl | h⟩
    · exact .one h1 h2 h3 h4
    · exact .step h h1 h2 h3 h4
theorem Hb.trans {E : List Event} {i k j : Nat} (h : Hb E i k) (h2 : Hb E k j) : Hb E i j := by
  induction h2 with
  | one h1 h2 h3 h4 => exact .step h h1 h2 h3 h4
  | step _ h1 h2 h3 h4 ih => exact .step ih h1 h2 h3 h4
theorem at_old {E : List Event} {x : Event} {k : Nat} (h : k < E.length) : (E ++ [x])[k]? = E[k]? := List.getElem?_append_left h
theorem at_new {E : List Event} {x : Event} : (E ++ [x])[E.length]? = some x := by simp
theorem Hb.snoc {E : List Event} {x : Event} {i j : Nat} (h : Hb E i j) : Hb (E ++ [x]) i j := by
  induction h with
  | one h1 h2 h3 h4 => exact .one (by rw [at_old (List.getElem?_eq_some_iff.1 h1).1]; exact h1) (by rw [at_old (List.getElem?_eq_some_iff.1 h2).1]; exact h2) h3 h4
  | step _ h1 h2 h3 h4 ih => exact .step ih (by rw [at_old (List.getElem?_eq_some_iff.1 h1).1]; exact h1) (by rw [at_old (List.getElem?_eq_some_iff.1 h2).1]; exact h2) h3 h4
theorem Hb.old {E : List Event} {x : Event} {i j : Nat} (h : Hb (E ++ [x]) i j) (hj : j < E.length) : Hb E i j := by
  induction h with
  | one h1 h2 h3 h4 => exact .one (by rw [at_old (by omega)] at h1; exact h1) (by rw [at_old hj] at h2; exact h2) h3 h4
  | step _ h1 h2 h3 h4 ih => exact .step (ih (by omega)) (by rw [at_old (by omega)] at h1; exact h1) (by rw [at_old hj] at h2; exact h2) h3 h4
theorem hb_old {E : List Event} {x : Event} {i j : Nat} (hj : j < E.length) : Hb (E ++ [x]) i j ↔ Hb E i j := ⟨fun h => h.old hj, Hb.snoc⟩

def PG (E : List Event) (g : Int) (i : Nat) : Prop := ∃ k a, E[k]? = some a ∧ (k = i ∨ Hb E i k) ∧ (a.g = g ∨ (a.kind = 4 ∧ a.child = g))
def PT (E : List Event) (kd o : Int) (i : Nat) : Prop := ∃ k a, E[k]? = some a ∧ (k = i ∨ Hb E i k) ∧ a.kind = kd ∧ a.obj = o ∧ a.kind ≠ 4 ∧ EvRel a
theorem leads_iff {a x : Event} : EvLeads a x ↔ (a.g = x.g ∨ (a.kind = 4 ∧ a.child = x.g)) ∨ ∃ k ∈ fromL x.kind, a.kind = k ∧ a.obj = x.obj ∧ a.kind ≠ 4 ∧ EvRel a := by
  unfold EvLeads EvRel fromL
  by_cases h5 : x.kind = 5
  · rw [if_pos h5]; simp only [List.mem_singleton, exists_eq_left]; omega
  · rw [if_neg h5]
    by_cases h7 : x.kind = 7
    · rw [if_pos h7]; simp only [List.mem_singleton, exists_eq_left]; omega
    · rw [if_neg h7]
      by_cases h9 : x.kind = 9
      · rw [if_pos h9]; simp only [List.mem_cons, exists_eq_or_imp, exists_eq_left, List.not_mem_nil, or_false]; omega
      · rw [if_neg h9]
        by_cases h12 : x.kind = 12
        · rw [if_pos h12]; simp only [List.mem_singleton, exists_eq_left]; omega
        · rw [if_neg h12]; simp only [List.not_mem_nil, false_and, exists_false, or_false]; omega
theorem ahead_iff {E : List Event} {x : Event} {i : Nat} : Hb (E ++ [x]) i E.length ↔ (PG E x.g i ∨ ∃ k ∈ fromL x.kind, PT E k x.obj i) := by
  rw [Hb.iff]
  constructor
  · rintro ⟨k, a, b, hk, ha, hb, hl, hi⟩
    rw [at_old hk] at ha; rw [at_new] at hb; cases hb
    have hi' : k = i ∨ Hb E i k := hi.imp id (fun h => h.old hk)
    rcases leads_iff.1 hl with h | ⟨q, hq, h⟩
    · exact .inl ⟨k, a, ha, hi', h⟩
    · exact .inr ⟨q, hq, k, a, ha, hi', h⟩
  · rintro (⟨k, a, ha, hi, h⟩ | ⟨q, hq, k, a, ha, hi, h⟩)
    · have hk := (List.getElem?_eq_some_iff.1 ha).1
      exact ⟨k, a, x, hk, by rw [at_old hk]; exact ha, at_new, leads_iff.2 (.inl h), hi.imp id Hb.snoc⟩
    · have hk := (List.getElem?_eq_some_iff.1 ha).1
      exact ⟨k, a, x, hk, by rw [at_old hk]; exact ha, at_new, leads_iff.2 (.inr ⟨q, hq, h⟩), hi.imp id Hb.snoc⟩
theorem pg_snoc {E : List Event} {x : Event} {g : Int} {i : Nat} : PG (E ++ [x]) g i ↔ (i < E.length ∧ PG E g i) ∨ ((x.g = g ∨ (x.kind = 4 ∧ x.child = g)) ∧ (i = E.length ∨ Hb (E ++ [x]) i E.length)) := by
  constructor
  · rintro ⟨k, a, ha, hi, h⟩
    by_cases hk : k < E.length
    · rw [at_old hk] at ha
      have hi' : k = i ∨ Hb E i k := hi.imp id (fun h => h.old hk)
      exact .inl ⟨by rcases hi' with rfl | h'; exact hk; (have := h'.lt; omega), k, a, ha, hi', h⟩
    · have hl := (List.getElem?_eq_some_iff.1 ha).1
      rw [List.length_append, List.length_singleton] at hl
      obtain rfl : k = E.length := by omega
      rw [at_new] at ha; cases ha
      exact .inr ⟨h, hi.imp Eq.symm id⟩
  · rintro (⟨_, k, a, ha, hi, h⟩ | ⟨h, hi⟩)
    · have hk := (List.getElem?_eq_some_iff.1 ha).1
      exact ⟨k, a, by rw [at_old hk]; exact ha, hi.imp id Hb.snoc, h⟩
    · exact ⟨E.length, x, at_new, hi.imp Eq.symm id, h⟩
theorem pt_snoc {E : List Event} {x : Event} {kd o : Int} {i : Nat} : PT (E ++ [x]) kd o i ↔ (i < E.length ∧ PT E kd o i) ∨ ((x.kind = kd ∧ x.obj = o ∧ x.kind ≠ 4 ∧ EvRel x) ∧ (i = E.length ∨ Hb (E ++ [x]) i E.length)) := by
  constructor
  · rintro ⟨k, a, ha, hi, h⟩
    by_cases hk : k < E.length
    · rw [at_old hk] at ha
      have hi' : k = i ∨ Hb E i k := hi.imp id (fun h => h.old hk)
      exact .inl ⟨by rcases hi' with rfl | h'; exact hk; (have := h'.lt; omega), k, a, ha, hi', h⟩
    · have hl := (List.getElem?_eq_some_iff.1 ha).1
      rw [List.length_append, List.length_singleton] at hl
      obtain rfl : k = E.length := by omega
      rw [at_new] at ha; cases ha
      exact .inr ⟨h, hi.imp Eq.symm id⟩
  · rintro (⟨_, k, a, ha, hi, h⟩ | ⟨h, hi⟩)
    · have hk := (List.getElem?_eq_some_iff.1 ha).1
      exact ⟨k, a, by rw [at_old hk]; exact ha, hi.imp id Hb.snoc, h⟩
    · exact ⟨E.length, x, at_new, hi.imp Eq.symm id, h⟩

/-! ### clocks that tick at releases -/
def rels (E : List Event) (g : Int) : Int := ((E.filter fun e => e.g = g ∧ EvRel e).length : Nat)
theorem rels_nil (g : Int) : rels [] g = 0 := rfl
theorem rels_snoc (E : List Event) (x : Event) (g : Int) : rels (E ++ [x]) g = rels E g + if x.g = g ∧ EvRel x then 1 else 0 := by
  unfold rels; rw [List.filter_append, List.length_append]
  by_cases h : x.g = g ∧ EvRel x
  · rw [if_pos h]; simp [h]
  · rw [if_neg h, List.filter_cons_of_neg (by simpa using h)]; simp
theorem rels_nn (E : List Event) (g : Int) : 0 ≤ rels E g := by unfold rels; omega
theorem rels_take (E : List Event) (i : Nat) (g : Int) : rels (E.take i) g ≤ rels E g := by
  unfold rels
  have := ((List.take_sublist i E).filter (fun e => decide (e.g = g ∧ EvRel e))).length_le
  omega
theorem rels_le (E : List Event) (g : Int) : rels E g ≤ E.length := by
  unfold rels; have := List.length_filter_le (fun e => decide (e.g = g ∧ EvRel e)) E; omega
/-- An event's own clock. -/
def ownK (E : List Event) (i : Nat) (g : Int) : Int := rels (E.take i) g + 1
theorem ownK_old {E : List Event} {x : Event} {i : Nat} (h : i ≤ E.length) (g : Int) : ownK (E ++ [x]) i g = ownK E i g := by unfold ownK; rw [List.take_append_of_le_length h]
theorem ownK_new (E : List Event) (x : Event) (g : Int) : ownK (E ++ [x]) E.length g = rels E g + 1 := by unfold ownK; rw [List.take_append_of_le_length (Nat.le_refl _), List.take_length]
theorem ownK_le (E : List Event) (i : Nat) (g : Int) : ownK E i g ≤ rels E g + 1 := by unfold ownK; have := rels_take E i g; omega
def stK (E : List Event) : KSt := E.foldl comeS kst0
theorem stK_snoc (E : List Event) (x : Event) : stK (E ++ [x]) = comeS (stK E) x := by simp [stK]

def Told (E : List Event) (c : List Int) (P : Nat → Prop) : Prop := ∀ i e, E[i]? = some e → (P i ↔ ownK E i e.g ≤ getC c e.g)
def Few (E : List Event) (c : List Int) : Prop := ∀ g, 0 ≤ getC c g ∧ getC c g ≤ rels E g
def FewG (E : List Event) (c : List Int) (g : Int) : Prop := (∀ h, 0 ≤ getC c h ∧ (h ≠ g → getC c h ≤ rels E h)) ∧ getC c g = rels E g + 1
theorem Told.congr {E : List Event} {c : List Int} {P Q : Nat → Prop} (h : Told E c P) (hq : ∀ i, i < E.length → (Q i ↔ P i)) : Told E c Q := fun i e he => (hq i (List.getElem?_eq_some_iff.1 he).1).trans (h i e he)
theorem Told.join {E : List Event} {c d : List Int} {P Q : Nat → Prop} (h : Told E c P) (k : Told E d Q) (hn : NN0 c) : Told E (join2 c d) (fun i => P i ∨ Q i) := by
  intro i e he
  show (P i ∨ Q i) ↔ _
  rw [getC_join2 hn, h i e he, k i e he]; omega
theorem Few.nn {E : List Event} {c : List Int} (h : Few E c) : NN0 c := fun g => (h g).1
theorem FewG.nn {E : List Event} {c : List Int} {g : Int} (h : FewG E c g) : NN0 c := fun k => (h.1 k).1
theorem FewG.join {E : List Event} {c d : List Int} {g : Int} (h : FewG E c g) (k : Few E d) : FewG E (join2 c d) g := by
  have hj := getC_join2 (b := d) h.nn
  refine ⟨fun y => ?_, ?_⟩
  · rw [hj]; have := h.1 y; have := k y; exact ⟨by omega, fun hy => by have := this.2; have := (h.1 y).2 hy; omega⟩
  · rw [hj, h.2]; have := k g; omega
/-- An event more: what is known of the others stays. -/
theorem Told.snoc {E : List Event} {c : List Int} {P : Nat → Prop} (h : Told E c P) (x : Event) (hx : getC c x.g ≤ rels E x.g) : Told (E ++ [x]) c (fun i => i < E.length ∧ P i) := by
  intro i e he
  by_cases hi : i < E.length
  · rw [at_old hi] at he; rw [ownK_old (by omega), ← h i e he]; exact ⟨fun q => q.2, fun q => ⟨hi, q⟩⟩
  · have hl := (List.getElem?_eq_some_iff.1 he).1
    rw [List.length_append, List.length_singleton] at hl
    obtain rfl : i = E.length := by omega
    rw [at_new] at he; cases he
    rw [ownK_new]; exact ⟨fun q => absurd q.1 hi, fun q => by omega⟩
/-- An event more that is known, too. -/
theorem Told.with {E : List Event} {c : List Int} {P : Nat → Prop} (h : Told E c P) (x : Event) (hx : getC c x.g = rels E x.g + 1) : Told (E ++ [x]) c (fun i => i = E.length ∨ (i < E.length ∧ P i)) := by
  intro i e he
  by_cases hi : i < E.length
  · rw [at_old hi] at he; rw [ownK_old (by omega), ← h i e he]; exact ⟨fun q => by rcases q with q | q; (exfalso; omega); exact q.2, fun q => .inr ⟨hi, q⟩⟩
  · have hl := (List.getElem?_eq_some_iff.1 he).1
    rw [List.length_append, List.length_singleton] at hl
    obtain rfl : i = E.length := by omega
    rw [at_new] at he; cases he
    rw [ownK_new]; exact ⟨fun _ => by omega, fun _ => .inl rfl⟩
/-- A tick of one of which nothing else is told. -/
theorem Told.tick {E : List Event} {c : List Int} {P : Nat → Prop} {g : Int} (h : Told E c P) (h0 : 0 ≤ g) (hall : ∀ i e, E[i]? = some e → e.g = g → P i) : Told E (tick1 c g) P := by
  intro i e he
  rw [getC_tick c h0]
  by_cases hg : e.g = g
  · rw [if_pos hg]; have hp := hall i e he hg; have := (h i e he).1 hp; rw [hg] at this ⊢; exact ⟨fun _ => by omega, fun _ => hp⟩
  · rw [if_neg hg]; exact h i e he
theorem Few.snoc {E : List Event} {c : List Int} (h : Few E c) (x : Event) : Few (E ++ [x]) c := fun g => by
  have := h g; have := rels_snoc E x g; split at this <;> omega

structure KInv (E : List Event) : Prop where
  b : ∀ e, e ∈ E → (stK E).g e.g ≠ none ∧ (e.kind = 4 → (stK E).g e.child ≠ none)
  g : ∀ g c, (stK E).g g = some c → 0 ≤ g ∧ Told E c (PG E g) ∧ FewG E c g
  t : ∀ k o, Told E ((stK E).t k o) (PT E k o) ∧ Few E ((stK E).t k o)
theorem gv_some {s : KSt} {g : Int} {c : List Int} (h : s.g g = some c) : gv s g = c := by unfold gv; rw [h]; rfl
theorem kacc_told {E : List Event} (h : KInv E) {x : Event} (hx : (stK E).g x.g ≠ none) : Told E (kacc (stK E) x) (fun i => PG E x.g i ∨ ∃ k ∈ fromL x.kind, PT E k x.obj i) ∧ FewG E (kacc (stK E) x) x.g := by
  unfold kacc
  obtain ⟨c, hc⟩ := Option.ne_none_iff_exists'.1 hx
  obtain ⟨h0, h1, h2⟩ := h.g _ _ hc
  rw [gv_some hc]
  have key : ∀ (l : List Int) (c : List Int) (P : Nat → Prop), Told E c P → FewG E c x.g → Told E (l.foldl (fun c k => join2 c ((stK E).t k x.obj)) c) (fun i => P i ∨ ∃ k ∈ l, PT E k x.obj i) ∧ FewG E (l.foldl (fun c k => join2 c ((stK E).t k x.obj)) c) x.g := by
    intro l
    induction l with
    | nil => intro c P hc hf; exact ⟨hc.congr (fun i _ => by simp), hf⟩
    | cons k l ih =>
      intro c P hc hf
      obtain ⟨q1, q2⟩ := ih _ _ (hc.join (h.t k x.obj).1 hf.nn) (hf.join (h.t k x.obj).2)
      refine ⟨q1.congr (fun i _ => ?_), q2⟩
      simp only [List.mem_cons, exists_eq_or_imp, or_assoc]
  exact key _ _ _ h1 h2
theorem comeErr_0 {en : Int} {s : KSt} {x : Event} (h : comeErr en s x = 0) : EvOk x ∧ s.g x.g ≠ none ∧ (x.kind = 4 → s.g x.child = none) ∧ (EvRel x → getC (gv s x.g) x.g < en) := by
  unfold comeErr at h
  split at h
  · exact absurd h (by decide)
  · rename_i h1
    split at h
    · exact absurd h (by decide)
    · rename_i h2
      split at h
      · exact absurd h (by decide)
      · rename_i h3
        split at h
        · exact absurd h (by decide)
        · rename_i h4
          refine ⟨Classical.not_not.1 h1, h2, fun q => Classical.byContradiction (fun r => h3 ⟨q, r⟩), fun q => ?_⟩
          have h5 : ¬ en ≤ getC (gv s x.g) x.g := fun r => h4 ⟨q, h2, r⟩
          omega
theorem KInv.nil : KInv [] := by
  refine ⟨fun e h => by simp at h, fun g c h => ?_, fun k o => ⟨fun i e h => by simp at h, fun g => by rw [show (stK []).t k o = [] from rfl, getC_nil]; exact ⟨Int.le_refl _, Int.le_refl _⟩⟩⟩
  have e : (stK []).g g = if g = 0 then some [1] else none := rfl
  rw [e] at h
  by_cases q : g = 0
  · subst q; rw [if_pos rfl] at h; cases h
    refine ⟨Int.le_refl _, fun i e h => by simp at h, fun y => ?_, rfl⟩
    by_cases r : y = 0
    · subst r; exact ⟨by decide, fun q => absurd rfl q⟩
    · have : getC [1] y = 0 := by
        refine getC_no ?_
        simp; omega
      rw [this]; exact ⟨Int.le_refl _, fun _ => Int.le_refl _⟩
  · rw [if_neg q] at h; cases h
theorem KInv.unborn {E : List Event} (h : KInv E) {g : Int} (hg : (stK E).g g = none) : (∀ e ∈ E, e.g ≠ g) ∧ rels E g = 0 ∧ ∀ i, ¬ PG E g i := by
  have h1 : ∀ e ∈ E, e.g ≠ g := fun e he q => (h.b e he).1 (q ▸ hg)
  refine ⟨h1, ?_, ?_⟩
  · unfold rels
    rw [List.filter_eq_nil_iff.2 (fun e he => by simp [h1 e he])]; rfl
  · rintro i ⟨k, a, ha, _, q | q⟩
    · exact h1 a (List.mem_of_getElem? ha) q
    · exact (h.b a (List.mem_of_getElem? ha)).2 q.1 (q.2 ▸ hg)
theorem KInv.snoc {E : List Event} (h : KInv E) {x : Event} (hx : EvOk x) (hb : (stK E).g x.g ≠ none) (hc : x.kind = 4 → (stK E).g x.child = none) : KInv (E ++ [x]) := by
  have h0 : 0 ≤ x.g := by unfold EvOk at hx; omega
  have hch : x.kind = 4 → x.child ≠ x.g ∧ 1 ≤ x.child := fun q => by unfold EvOk at hx; have := hx.2.2.2.2.2.2.2.1 q; omega
  have hr4 : x.kind = 4 → EvRel x := fun q => .inl q
  obtain ⟨m1, m2⟩ := kacc_told h hb
  -- what is known at the event, the event with it
  have hw : Told (E ++ [x]) (kacc (stK E) x) (fun i => i = E.length ∨ Hb (E ++ [x]) i E.length) := (m1.with x m2.2).congr (fun i _ => by
    rw [ahead_iff]
    constructor
    · rintro (q | q)
      · exact .inl q
      · exact .inr ⟨(ahead_iff.2 q).lt, q⟩
    · rintro (q | q)
      · exact .inl q
      · exact .inr q.2)
  have hs := fun g => rels_snoc E x g
  have hpg : ∀ i, (i = E.length ∨ Hb (E ++ [x]) i E.length) ↔ PG (E ++ [x]) x.g i := fun i => by
    rw [pg_snoc]
    constructor
    · exact fun q => .inr ⟨.inl rfl, q⟩
    · rintro (⟨_, q⟩ | ⟨_, q⟩)
      · exact .inr (ahead_iff.2 (.inl q))
      · exact q
  refine ⟨fun e he => ?_, fun g c hgc => ?_, fun k o => ?_⟩
  · rw [stK_snoc]
    have mono : ∀ g, (stK E).g g ≠ none → (comeS (stK E) x).g g ≠ none := fun g q => by
      unfold comeS; simp only
      by_cases r : g = x.g
      · rw [if_pos r]; simp
      · rw [if_neg r]
        by_cases u : x.kind = 4 ∧ g = x.child
        · rw [if_pos u]; simp
        · rw [if_neg u]; exact q
    rcases List.mem_append.1 he with he | he
    · exact ⟨mono _ (h.b e he).1, fun q => mono _ ((h.b e he).2 q)⟩
    · rw [List.mem_singleton.1 he]
      refine ⟨mono _ hb, fun q => ?_⟩
      unfold comeS; simp only
      rw [if_neg (hch q).1, if_pos ⟨q, trivial⟩]; simp
  · rw [stK_snoc] at hgc
    unfold comeS at hgc; simp only at hgc
    by_cases hg : g = x.g
    · subst hg
      rw [if_pos rfl] at hgc
      refine ⟨h0, ?_⟩
      by_cases hr : EvRel x
      · rw [if_pos hr] at hgc; cases hgc
        refine ⟨(hw.tick h0 (fun i e he hg => ?_)).congr (fun i _ => (hpg i).symm), fun y => ?_, ?_⟩
        · rw [hpg]; exact ⟨i, e, he, .inl rfl, .inl hg⟩
        · rw [getC_tick _ h0]; have my := m2.1 y; have := m2.1 x.g
          by_cases hy : y = x.g
          · rw [if_pos hy]; exact ⟨by omega, fun q => absurd hy q⟩
          · rw [if_neg hy]; exact ⟨my.1, fun q => by have := my.2 q; rw [hs, if_neg (fun u => q u.1.symm)]; omega⟩
        · rw [getC_tick _ h0, if_pos rfl, m2.2, hs, if_pos ⟨rfl, hr⟩]
      · rw [if_neg hr] at hgc; cases hgc
        refine ⟨hw.congr (fun i _ => (hpg i).symm), fun y => ?_, ?_⟩
        · have := m2.1 y; exact ⟨this.1, fun q => by have := this.2 q; rw [hs, if_neg (fun u => q u.1.symm)]; omega⟩
        · rw [m2.2, hs, if_neg (fun u => hr u.2)]; omega
    · rw [if_neg hg] at hgc
      by_cases hk : x.kind = 4 ∧ g = x.child
      · rw [if_pos hk] at hgc; cases hgc
        obtain ⟨hk, rfl⟩ := hk
        have hu := h.unborn (hc hk)
        have hc0 : getC (kacc (stK E) x) x.child = 0 := by have := (m2.1 x.child).2 hg; have := (m2.1 x.child).1; have := hu.2.1; omega
        have hpc : 0 ≤ x.child := by have := (hch hk).2; omega
        refine ⟨hpc, ?_, ?_, ?_⟩
        · intro i e he
          have hne : e.g ≠ x.child := by
            rcases List.mem_append.1 (List.mem_of_getElem? he) with q | q
            · exact hu.1 e q
            · rw [List.mem_singleton.1 q]; exact fun u => hg u.symm
          rw [getC_tick _ hpc, if_neg hne, ← hw i e he, pg_snoc]
          constructor
          · rintro (⟨_, q⟩ | ⟨_, q⟩)
            · exact absurd q (hu.2.2 i)
            · exact q
          · exact fun q => .inr ⟨.inr ⟨hk, rfl⟩, q⟩
        · intro y
          rw [getC_tick _ hpc]
          have := m2.1 y; have := m2.2; have := hs y
          by_cases hy : y = x.child
          · rw [if_pos hy]; exact ⟨by omega, fun q => absurd hy q⟩
          · rw [if_neg hy]
            by_cases hyg : y = x.g
            · subst hyg; exact ⟨by omega, fun _ => by rw [hs, if_pos ⟨rfl, hr4 hk⟩]; omega⟩
            · exact ⟨by omega, fun _ => by rw [hs, if_neg (fun u => hyg u.1.symm)]; omega⟩
        · rw [getC_tick _ hpc, if_pos rfl, hc0, hs, if_neg (fun u => hg u.1.symm), hu.2.1]; omega
      · rw [if_neg hk] at hgc
        obtain ⟨q0, q1, q2⟩ := h.g g c hgc
        refine ⟨q0, (q1.snoc x ((q2.1 x.g).2 (fun u => hg u.symm))).congr (fun i _ => ?_), fun y => ?_, ?_⟩
        · rw [pg_snoc]
          constructor
          · rintro (q | ⟨q | q, _⟩)
            · exact q
            · exact absurd q.symm hg
            · exact absurd ⟨q.1, q.2.symm⟩ hk
          · exact .inl
        · have my := q2.1 y; exact ⟨my.1, fun q => by have := my.2 q; rw [hs]; split <;> omega⟩
        · rw [q2.2, hs, if_neg (fun u => hg u.1.symm)]; omega
  · rw [stK_snoc]
    unfold comeS; simp only
    obtain ⟨t1, t2⟩ := h.t k o
    by_cases hk : EvRel x ∧ x.kind ≠ 4 ∧ k = x.kind ∧ o = x.obj
    · rw [if_pos hk]
      obtain ⟨hr, hk, rfl, rfl⟩ := hk
      refine ⟨(((t1.snoc x (t2 x.g).2).join hw t2.nn)).congr (fun i _ => ?_), fun y => ?_⟩
      · rw [pt_snoc]
        constructor
        · rintro (q | q)
          · exact .inl q
          · exact .inr q.2
        · rintro (q | q)
          · exact .inl q
          · exact .inr ⟨⟨rfl, rfl, hk, hr⟩, q⟩
      · rw [getC_join2 t2.nn]
        have := t2 y; have := m2.1 y; have := m2.2; have := hs y
        by_cases hy : y = x.g
        · subst hy; rw [hs, if_pos ⟨rfl, hr⟩]; omega
        · have := (m2.1 y).2 hy; rw [hs, if_neg (fun u => hy u.1.symm)]; omega
    · rw [if_neg hk]
      refine ⟨(t1.snoc x (t2 x.g).2).congr (fun i _ => ?_), t2.snoc x⟩
      rw [pt_snoc]
      constructor
      · rintro (q | q)
        · exact q
        · exact absurd ⟨q.1.2.2.2, q.1.2.2.1, q.1.1.symm, q.1.2.1.symm⟩ hk
      · exact .inl
/-- Events of which each came. -/
inductive Came (en : Int) : List Event → Prop
  | nil : Came en []
  | snoc {E : List Event} {x : Event} : Came en E → comeErr en (stK E) x = 0 → Came en (E ++ [x])
theorem Came.inv {en : Int} {E : List Event} (h : Came en E) : KInv E := by
  induction h with
  | nil => exact KInv.nil
  | snoc _ hx ih => obtain ⟨a, b, c, _⟩ := comeErr_0 hx; exact ih.snoc a b c
theorem Came.ok {en : Int} {E : List Event} (h : Came en E) : ∀ e ∈ E, EvOk e := by
  induction h with
  | nil => intro e he; simp at he
  | snoc _ hx ih =>
    intro e he
    rcases List.mem_append.1 he with he | he
    · exact ih e he
    · rw [List.mem_singleton.1 he]; exact (comeErr_0 hx).1
theorem Came.get {en : Int} {E : List Event} (h : Came en E) {j : Nat} {x : Event} (hj : E[j]? = some x) : Came en (E.take j) ∧ comeErr en (stK (E.take j)) x = 0 := by
  induction h with
  | nil => simp at hj
  | @snoc E y h hx ih =>
    by_cases q : j < E.length
    · rw [at_old q] at hj; rw [List.take_append_of_le_length (by omega)]; exact ih hj
    · have hl := (List.getElem?_eq_some_iff.1 hj).1
      rw [List.length_append, List.length_singleton] at hl
      obtain rfl : j = E.length := by omega
      rw [at_new] at hj; cases hj
      rw [List.take_append_of_le_length (Nat.le_refl _), List.take_length]; exact ⟨h, hx⟩
/-- An event's own clock is one more than how many of its goroutine's events released. -/
theorem KInv.own {E : List Event} (h : KInv E) {x : Event} (hb : (stK E).g x.g ≠ none) : getC (kacc (stK E) x) x.g = rels E x.g + 1 ∧ getC (gv (stK E) x.g) x.g = rels E x.g + 1 := by
  obtain ⟨c, hc⟩ := Option.ne_none_iff_exists'.1 hb
  exact ⟨(kacc_told h hb).2.2, by rw [gv_some hc]; exact (h.g _ _ hc).2.2.2⟩
theorem getC_set {c : List Int} {g : Nat} {v : Int} {y : Int} (h : y ≠ (g : Int)) : getC (c.set g v) y = getC c y := by
  by_cases q : y < 0
  · rw [getC_neg q, getC_neg q]
  · have e : y = ((y.toNat : Nat) : Int) := by omega
    rw [e, getC_nat, getC_nat, List.getElem?_set_ne (by omega)]
theorem gv_come {s : KSt} {x : Event} : gv (comeS s x) x.g = if EvRel x then tick1 (kacc s x) x.g else kacc s x := by
  unfold gv comeS; simp only [if_true]; rfl
/-- What a goroutine has at its event, its own clock set back. -/
def hadE (E : List Event) (x : Event) : List Int := (gv (comeS (stK E) x) x.g).set x.g.toNat (rels E x.g + 1)
theorem had_iff {E : List Event} (h : KInv E) {x a : Event} (hx : EvOk x) (hb : (stK E).g x.g ≠ none) {i : Nat} (hi : E[i]? = some a) (hg : a.g ≠ x.g) : Hb (E ++ [x]) i E.length ↔ ownK E i a.g ≤ getC (hadE E x) a.g := by
  have h0 : 0 ≤ x.g := by unfold EvOk at hx; omega
  obtain ⟨m1, m2⟩ := kacc_told h hb
  rw [ahead_iff]
  have : getC (hadE E x) a.g = getC (kacc (stK E) x) a.g := by
    unfold hadE
    rw [getC_set (by omega), gv_come]
    split
    · rw [getC_tick _ h0, if_neg hg]
    · rfl
  rw [this]; exact m1 i a hi
theorem Hb.take_iff {E : List Event} {i j : Nat} {x : Event} (hj : E[j]? = some x) : Hb E i j ↔ Hb (E.take j ++ [x]) i j := by
  have key : ∀ n, j < n → n ≤ E.length → (Hb (E.take n) i j ↔ Hb (E.take j ++ [x]) i j) := by
    intro n
    induction n with
    | zero => intro h; omega
    | succ n ih =>
      intro h1 h2
      obtain ⟨e, he⟩ : ∃ e, E[n]? = some e := ⟨_, List.getElem?_eq_getElem (by omega)⟩
      by_cases q : j < n
      · rw [tk_snoc he, hb_old (by rw [List.length_take]; omega)]; exact ih q (by omega)
      · obtain rfl : j = n := by omega
        rw [tk_snoc hj]
  have := key E.length (List.getElem?_eq_some_iff.1 hj).1 (Nat.le_refl _)
  rwa [List.take_length] at this
/-- One event is before another one of another goroutine just if that one had its epoch. -/
theorem Came.had {en : Int} {E : List Event} (h : Came en E) {i j : Nat} {a b : Event} (hij : i < j) (ha : E[i]? = some a) (hb : E[j]? = some b) (hg : a.g ≠ b.g) : Hb E i j ↔ ownK E i a.g ≤ getC (hadE (E.take j) b) a.g := by
  obtain ⟨q1, q2⟩ := h.get hb
  obtain ⟨r1, r2, _, _⟩ := comeErr_0 q2
  have hl := (List.getElem?_eq_some_iff.1 hb).1
  have hi : (E.take j)[i]? = some a := by rw [List.getElem?_take, if_pos hij]; exact ha
  have hlen : (E.take j).length = j := by rw [List.length_take]; omega
  have := had_iff q1.inv r1 r2 hi hg
  rw [hlen] at this
  rw [Hb.take_iff hb, this]
  unfold ownK; rw [List.take_take, show min i j = i from by omega]
end Go.Proofs.YtoakhhilmnfpkaaGreatDoor.L
