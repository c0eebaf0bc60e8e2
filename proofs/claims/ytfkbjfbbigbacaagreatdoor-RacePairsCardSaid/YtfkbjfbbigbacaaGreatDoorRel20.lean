/- The plain law of clocks: an event is before another one just if a chain of leads goes from it to that one. Nothing of the program is walked here. -/
import Derived.Test.YtfkbjfbbigbacaaGreatDoorT9
namespace Go.Proofs.YtfkbjfbbigbacaaGreatDoor.L
open Go.RowKit

theorem getC_nat (c : List Int) (i : Nat) : getC c (i : Int) = (c[i]?).getD 0 := by unfold getC; rw [if_neg (by omega), Int.toNat_natCast]
theorem getC_neg {c : List Int} {i : Int} (h : i < 0) : getC c i = 0 := by unfold getC; rw [if_pos h]
theorem getC_ext {a b : List Int} (h : ∀ i : Nat, getC a (i : Int) = getC b (i : Int)) (i : Int) : getC a i = getC b i := by
  by_cases q : i < 0
  · rw [getC_neg q, getC_neg q]
  · have := h i.toNat; rwa [Int.toNat_of_nonneg (by omega)] at this
theorem trim_snoc0 (c : List Int) : trimC (c ++ [0]) = trimC c := by unfold trimC; simp
theorem trim_snoc {c : List Int} {y : Int} (h : y ≠ 0) : trimC (c ++ [y]) = c ++ [y] := by unfold trimC; simp [h]
theorem getC_trim (c : List Int) (i : Int) : getC (trimC c) i = getC c i := by
  refine getC_ext (fun i => ?_) i
  rw [← List.reverse_reverse c]
  generalize c.reverse = r
  induction r with
  | nil => rfl
  | cons y r ih =>
    rw [List.reverse_cons]
    by_cases hy : y = 0
    · subst hy
      rw [trim_snoc0, ih, getC_nat, getC_nat, List.getElem?_append]
      split
      · rfl
      · rename_i h
        rw [List.getElem?_eq_none (by omega)]
        cases e : ([0] : List Int)[i - r.reverse.length]? with
        | none => rfl
        | some z =>
          have := List.mem_of_getElem? e; rw [List.mem_singleton] at this; subst this; rfl
    · rw [trim_snoc hy]
theorem getC_join : ∀ (a b : List Int) (i : Nat), (∀ i : Nat, 0 ≤ getC a (i : Int)) → getC (joinC a b) (i : Int) = max (getC a (i : Int)) (getC b (i : Int))
  | s, [], i, h => by rw [joinC_nil, show getC ([] : List Int) (i : Int) = 0 from by rw [getC_nat]; rfl]; have := h i; omega
  | [], n :: c, 0, h => by rw [getC_nat, getC_nat, getC_nat]; simp [joinC]
  | [], n :: c, i + 1, h => by
    have ih := getC_join [] c i h
    rw [getC_nat, getC_nat, getC_nat] at ih ⊢
    simpa [joinC] using ih
  | x :: s, n :: c, 0, h => by rw [getC_nat, getC_nat, getC_nat]; simp [joinC]
  | x :: s, n :: c, i + 1, h => by
    have ih := getC_join s c i (fun q => by have := h (q + 1); rw [getC_nat] at this ⊢; simpa using this)
    rw [getC_nat, getC_nat, getC_nat] at ih ⊢
    simpa [joinC] using ih
def NN0 (c : List Int) : Prop := ∀ g, 0 ≤ getC c g
theorem getC_nil (g : Int) : getC ([] : List Int) g = 0 := by unfold getC; split <;> simp
theorem getC_join2 {a b : List Int} (ha : NN0 a) (g : Int) : getC (join2 a b) g = max (getC a g) (getC b g) := by
  unfold join2
  rw [getC_trim]
  by_cases q : g < 0
  · rw [getC_neg q, getC_neg q, getC_neg q]; rfl
  · have e : g = ((g.toNat : Nat) : Int) := by omega
    rw [e]
    have h1 : ∀ i : Nat, getC (joinC [] a) (i : Int) = getC a (i : Int) := fun i => by
      rw [getC_join [] a i (fun i => by rw [getC_nil]; exact Int.le_refl _), getC_nil]; have := ha (i : Int); omega
    rw [getC_join _ _ _ (fun i => by rw [h1]; exact ha _), h1]
theorem getC_tick (c : List Int) {id : Int} (h0 : 0 ≤ id) (g : Int) : getC (tick1 c id) g = if g = id then getC c id + 1 else getC c g := by
  unfold tick1
  rw [getC_trim]
  have hpad : ∀ i : Nat, ((padC c id)[i]?).getD 0 = (c[i]?).getD 0 := fun i => by
    unfold padC
    rw [List.getElem?_append]
    split
    · rfl
    · rename_i h
      rw [List.getElem?_eq_none (l := c) (by omega), List.getElem?_replicate]
      split <;> rfl
  by_cases q : g < 0
  · rw [getC_neg q, getC_neg q, if_neg (by omega)]
  · have e : g = ((g.toNat : Nat) : Int) := by omega
    rw [e, getC_nat, getC_nat, List.getElem?_set]
    by_cases hg : g = id
    · rw [if_pos (by omega), if_pos (by rw [pad_len]; omega), if_pos (by omega)]; rfl
    · rw [if_neg (by omega), if_neg (by omega)]; exact hpad _

/-! ### which are ahead -/
inductive Hb (E : List Event) : Nat → Nat → Prop
  | one {k j : Nat} {a b : Event} : E[k]? = some a → E[j]? = some b → k < j → EvLeads a b → Hb E k j
  | step {i k j : Nat} {a b : Event} : Hb E i k → E[k]? = some a → E[j]? = some b → k < j → EvLeads a b → Hb E i j
theorem Hb.lt {E : List Event} {i j : Nat} (h : Hb E i j) : i < j := by
  induction h with
  | one _ _ h _ => exact h
  | step _ _ _ h _ ih => omega
theorem Hb.rng {E : List Event} {i j : Nat} (h : Hb E i j) : j < E.length := by
  cases h with
  | one _ h _ _ => exact (List.getElem?_eq_some_iff.1 h).1
  | step _ _ h _ _ => exact (List.getElem?_eq_some_iff.1 h).1
theorem Hb.iff {E : List Event} {i j : Nat} : Hb E i j ↔ ∃ k a b, k < j ∧ E[k]? = some a ∧ E[j]? = some b ∧ EvLeads a b ∧ (k = i ∨ Hb E i k) := by
  constructor
  · intro h
    cases h with
    | one h1 h2 h3 h4 => exact ⟨_, _, _, h3, h1, h2, h4, .inl rfl⟩
    | step h h1 h2 h3 h4 => exact ⟨_, _, _, h3, h1, h2, h4, .inr h⟩
  · rintro ⟨k, a, b, h3, h1, h2, h4, rfl | h⟩
    · exact .one h1 h2 h3 h4
    · exact .step h h1 h2 h3 h4
theorem Hb.trans {E : List Event} {i k j : Nat} (h : Hb E i k) (h2 : Hb E k j) : Hb E i j := by
  induction h2 with
  | one h1 h2 h3 h4 => exact .step h h1 h2 h3 h4
  | step _ h1 h2 h3 h4 ih => exact .step ih h1 h2 h3 h4
theorem at_old {E : List Event} {x : Event} {k : Nat} (h : k < E.length) : (E ++ [x])[k]? = E[k]? := List.getElem?_append_left h
theorem at_new {E : List Event} {x : Event} : (E ++ [x])[E.length]? = some x := by simp
theorem Hb.snoc {E : List Event} {x : Event} {i j : Nat} (h : Hb E i j) : Hb (E ++ [x]) i j := by
  induction h with
  | one h1 h2 h3 h4 => exact .one (by rw [at_old (List.getElem?_eq_some_iff.1 h1).1]; exact h1) (by rw [at_old (List.getElem?_eq_some_iff.1 h2).1]; exact h2) h3 h4
  | step _ h1 h2 h3 h4 ih => exact .step ih (by rw [at_old (List.getElem?_eq_some_iff.1 h1).1]; exact h1) (by rw [at_old (List.getElem?_eq_some_iff.1 h2).1]; exact h2) h3 h4
theorem Hb.old {E : List Event} {x : Event} {i j : Nat} (h : Hb (E ++ [x]) i j) (hj : j < E.length) : Hb E i j := by
  induction h with
  | one h1 h2 h3 h4 => exact .one (by rw [at_old (by omega)] at h1; exact h1) (by rw [at_old hj] at h2; exact h2) h3 h4
  | step _ h1 h2 h3 h4 ih => exact .step (ih (by omega)) (by rw [at_old (by omega)] at h1; exact h1) (by rw [at_old hj] at h2; exact h2) h3 h4
theorem hb_old {E : List Event} {x : Event} {i j : Nat} (hj : j < E.length) : Hb (E ++ [x]) i j ↔ Hb E i j := ⟨fun h => h.old hj, Hb.snoc⟩

/-! ### counts -/
def cntG (E : List Event) (g : Int) : Int := ((E.filter fun e => e.g = g).length : Nat)
def pos (E : List Event) (i : Nat) (g : Int) : Int := cntG (E.take (i + 1)) g
theorem cnt_snoc (E : List Event) (x : Event) (g : Int) : cntG (E ++ [x]) g = cntG E g + if x.g = g then 1 else 0 := by
  unfold cntG; rw [List.filter_append, List.length_append]
  by_cases h : x.g = g
  · rw [if_pos h]; simp [h]
  · rw [if_neg h]; simp [h]
theorem cnt_nn (E : List Event) (g : Int) : 0 ≤ cntG E g := by unfold cntG; omega
theorem pos_old {E : List Event} {x : Event} {i : Nat} (h : i < E.length) (g : Int) : pos (E ++ [x]) i g = pos E i g := by unfold pos; rw [List.take_append_of_le_length (by omega)]
theorem pos_new (E : List Event) (x : Event) : pos (E ++ [x]) E.length x.g = cntG E x.g + 1 := by
  unfold pos; rw [List.take_of_length_le (by simp), cnt_snoc, if_pos rfl]
theorem pos_le (E : List Event) (i : Nat) (g : Int) : pos E i g ≤ cntG E g := by
  unfold pos cntG
  have := ((List.take_sublist (i + 1) E).filter (fun e => e.g = g)).length_le
  omega
/-- A clock tells of which events something is so. -/
def Rep (E : List Event) (c : List Int) (P : Nat → Prop) : Prop := (∀ i e, E[i]? = some e → (P i ↔ pos E i e.g ≤ getC c e.g)) ∧ ∀ g, 0 ≤ getC c g ∧ getC c g ≤ cntG E g
theorem pos_pos {E : List Event} {i : Nat} {e : Event} (h : E[i]? = some e) : 1 ≤ pos E i e.g := by
  unfold pos
  rw [tk_snoc h, cnt_snoc, if_pos rfl]; have := cnt_nn (E.take i) e.g; omega
theorem Rep.nil (E : List Event) : Rep E [] (fun _ => False) := ⟨fun i e h => by rw [getC_nil]; have := pos_pos h; constructor <;> intro q <;> first | exact q.elim | omega, fun g => by rw [getC_nil]; exact ⟨Int.le_refl _, cnt_nn _ _⟩⟩
theorem Rep.join {E : List Event} {c d : List Int} {P Q : Nat → Prop} (h : Rep E c P) (k : Rep E d Q) : Rep E (join2 c d) (fun i => P i ∨ Q i) := by
  have hj := getC_join2 (b := d) (fun g => (h.2 g).1)
  refine ⟨fun i e he => ?_, fun g => ?_⟩
  · show (P i ∨ Q i) ↔ _
    rw [hj, h.1 i e he, k.1 i e he]; omega
  · rw [hj]; have := h.2 g; have := k.2 g; omega
theorem Rep.congr {E : List Event} {c : List Int} {P Q : Nat → Prop} (h : Rep E c P) (hq : ∀ i, i < E.length → (Q i ↔ P i)) : Rep E c Q := ⟨fun i e he => (hq i (List.getElem?_eq_some_iff.1 he).1).trans (h.1 i e he), h.2⟩
theorem Rep.snoc {E : List Event} {c : List Int} {P : Nat → Prop} (h : Rep E c P) (x : Event) : Rep (E ++ [x]) c (fun i => i < E.length ∧ P i) := by
  refine ⟨fun i e he => ?_, fun g => ?_⟩
  · by_cases hi : i < E.length
    · rw [at_old hi] at he; rw [pos_old hi, ← h.1 i e he]; exact ⟨fun q => q.2, fun q => ⟨hi, q⟩⟩
    · have hl := (List.getElem?_eq_some_iff.1 he).1
      rw [List.length_append, List.length_singleton] at hl
      obtain rfl : i = E.length := by omega
      rw [at_new] at he; cases he
      rw [pos_new]; have := (h.2 x.g).2
      exact ⟨fun q => absurd q.1 hi, fun q => by omega⟩
  · have := h.2 g; have := cnt_snoc E x g; split at this <;> omega
theorem Rep.tick {E : List Event} {c : List Int} {P : Nat → Prop} (h : Rep E c P) {x : Event} (h0 : 0 ≤ x.g) (hall : ∀ i e, E[i]? = some e → e.g = x.g → P i) : Rep (E ++ [x]) (tick1 c x.g) (fun i => i = E.length ∨ (i < E.length ∧ P i)) ∧ getC (tick1 c x.g) x.g = pos (E ++ [x]) E.length x.g := by
  have ht := getC_tick c h0
  have hfull : getC c x.g = cntG E x.g := by
    have hub := (h.2 x.g).2
    have hlb : ∀ n, n ≤ E.length → cntG (E.take n) x.g ≤ getC c x.g := by
      intro n
      induction n with
      | zero => intro _; have := (h.2 x.g).1; simpa [cntG] using this
      | succ n ih =>
        intro hn
        obtain ⟨e, he⟩ : ∃ e, E[n]? = some e := ⟨_, List.getElem?_eq_getElem (by omega)⟩
        by_cases hg : e.g = x.g
        · have := (h.1 n e he).1 (hall n e he hg); unfold pos at this; rw [hg] at this; exact this
        · rw [tk_snoc he, cnt_snoc, if_neg hg]; have := ih (by omega); omega
    have := hlb E.length (Nat.le_refl _); rw [List.take_length] at this; omega
  refine ⟨⟨fun i e he => ?_, fun g => ?_⟩, ?_⟩
  · by_cases hi : i < E.length
    · rw [at_old hi] at he; rw [pos_old hi, ht]
      by_cases hg : e.g = x.g
      · rw [if_pos hg]; have hp := hall i e he hg; have := (h.1 i e he).1 hp; rw [hg] at this ⊢; exact ⟨fun _ => by omega, fun _ => .inr ⟨hi, hp⟩⟩
      · rw [if_neg hg, ← h.1 i e he]; exact ⟨fun q => by rcases q with q | q; (exfalso; omega); exact q.2, fun q => .inr ⟨hi, q⟩⟩
    · have hl := (List.getElem?_eq_some_iff.1 he).1
      rw [List.length_append, List.length_singleton] at hl
      obtain rfl : i = E.length := by omega
      rw [at_new] at he; cases he
      rw [pos_new, ht, if_pos rfl]; exact ⟨fun _ => by omega, fun _ => .inl rfl⟩
  · rw [ht, cnt_snoc]; have := h.2 g
    by_cases hg : g = x.g
    · subst hg; rw [if_pos rfl, if_pos rfl]; omega
    · rw [if_neg hg, if_neg (fun e => hg e.symm)]; omega
  · rw [ht, if_pos rfl, pos_new, hfull]

/-! ### what the clocks tell -/
def PG (E : List Event) (g : Int) (i : Nat) : Prop := ∃ k a, E[k]? = some a ∧ (k = i ∨ Hb E i k) ∧ (a.g = g ∨ (a.kind = 4 ∧ a.child = g))
def PT (E : List Event) (kd o : Int) (i : Nat) : Prop := ∃ k a, E[k]? = some a ∧ (k = i ∨ Hb E i k) ∧ a.kind = kd ∧ a.obj = o ∧ a.kind ≠ 4 ∧ EvRel a
structure ClkInv (E : List Event) : Prop where
  g : ∀ g, Rep E ((stOf E).g g) (PG E g)
  t : ∀ k o, Rep E ((stOf E).t k o) (PT E k o)
  c : ∀ j c, (stOf E).ck[j]? = some c → Rep E c (fun i => i = j ∨ Hb E i j) ∧ ∀ e, E[j]? = some e → getC c e.g = pos E j e.g
theorem acc_rep {E : List Event} (h : ClkInv E) (x : Event) : Rep E (accS (stOf E) x) (fun i => PG E x.g i ∨ ∃ k ∈ fromL x.kind, PT E k x.obj i) := by
  unfold accS
  have key : ∀ (l : List Int) (c : List Int) (P : Nat → Prop), Rep E c P → Rep E (l.foldl (fun c k => join2 c ((stOf E).t k x.obj)) c) (fun i => P i ∨ ∃ k ∈ l, PT E k x.obj i) := by
    intro l
    induction l with
    | nil => intro c P hc; exact hc.congr (fun i _ => by simp)
    | cons k l ih =>
      intro c P hc
      refine (ih _ _ (hc.join (h.t k x.obj))).congr (fun i _ => ?_)
      simp only [List.mem_cons, exists_eq_or_imp, or_assoc]
  exact key _ _ _ (h.g x.g)
theorem leads_iff {a x : Event} : EvLeads a x ↔ (a.g = x.g ∨ (a.kind = 4 ∧ a.child = x.g)) ∨ ∃ k ∈ fromL x.kind, a.kind = k ∧ a.obj = x.obj ∧ a.kind ≠ 4 ∧ EvRel a := by
  unfold EvLeads EvRel fromL
  by_cases h5 : x.kind = 5
  · rw [if_pos h5]; simp only [List.mem_singleton, exists_eq_left]; omega
  · rw [if_neg h5]
    by_cases h7 : x.kind = 7
    · rw [if_pos h7]; simp only [List.mem_singleton, exists_eq_left]; omega
    · rw [if_neg h7]
      by_cases h9 : x.kind = 9
      · rw [if_pos h9]; simp only [List.mem_cons, exists_eq_or_imp, exists_eq_left, List.not_mem_nil, or_false]; omega
      · rw [if_neg h9]
        by_cases h12 : x.kind = 12
        · rw [if_pos h12]; simp only [List.mem_singleton, exists_eq_left]; omega
        · rw [if_neg h12]; simp only [List.not_mem_nil, false_and, exists_false, or_false]; omega
theorem ahead_iff {E : List Event} {x : Event} {i : Nat} : Hb (E ++ [x]) i E.length ↔ (PG E x.g i ∨ ∃ k ∈ fromL x.kind, PT E k x.obj i) := by
  rw [Hb.iff]
  constructor
  · rintro ⟨k, a, b, hk, ha, hb, hl, hi⟩
    rw [at_old hk] at ha; rw [at_new] at hb; cases hb
    have hi' : k = i ∨ Hb E i k := hi.imp id (fun h => h.old hk)
    rcases leads_iff.1 hl with h | ⟨q, hq, h⟩
    · exact .inl ⟨k, a, ha, hi', h⟩
    · exact .inr ⟨q, hq, k, a, ha, hi', h⟩
  · rintro (⟨k, a, ha, hi, h⟩ | ⟨q, hq, k, a, ha, hi, h⟩)
    · have hk := (List.getElem?_eq_some_iff.1 ha).1
      exact ⟨k, a, x, hk, by rw [at_old hk]; exact ha, at_new, leads_iff.2 (.inl h), hi.imp id Hb.snoc⟩
    · have hk := (List.getElem?_eq_some_iff.1 ha).1
      exact ⟨k, a, x, hk, by rw [at_old hk]; exact ha, at_new, leads_iff.2 (.inr ⟨q, hq, h⟩), hi.imp id Hb.snoc⟩
theorem pg_snoc {E : List Event} {x : Event} {g : Int} {i : Nat} : PG (E ++ [x]) g i ↔ (i < E.length ∧ PG E g i) ∨ ((x.g = g ∨ (x.kind = 4 ∧ x.child = g)) ∧ (i = E.length ∨ Hb (E ++ [x]) i E.length)) := by
  constructor
  · rintro ⟨k, a, ha, hi, h⟩
    by_cases hk : k < E.length
    · rw [at_old hk] at ha
      have hi' : k = i ∨ Hb E i k := hi.imp id (fun h => h.old hk)
      exact .inl ⟨by rcases hi' with rfl | h'; exact hk; (have := h'.lt; omega), k, a, ha, hi', h⟩
    · have hl := (List.getElem?_eq_some_iff.1 ha).1
      rw [List.length_append, List.length_singleton] at hl
      obtain rfl : k = E.length := by omega
      rw [at_new] at ha; cases ha
      exact .inr ⟨h, hi.imp Eq.symm id⟩
  · rintro (⟨_, k, a, ha, hi, h⟩ | ⟨h, hi⟩)
    · have hk := (List.getElem?_eq_some_iff.1 ha).1
      exact ⟨k, a, by rw [at_old hk]; exact ha, hi.imp id Hb.snoc, h⟩
    · exact ⟨E.length, x, at_new, hi.imp Eq.symm id, h⟩
theorem pt_snoc {E : List Event} {x : Event} {kd o : Int} {i : Nat} : PT (E ++ [x]) kd o i ↔ (i < E.length ∧ PT E kd o i) ∨ ((x.kind = kd ∧ x.obj = o ∧ x.kind ≠ 4 ∧ EvRel x) ∧ (i = E.length ∨ Hb (E ++ [x]) i E.length)) := by
  constructor
  · rintro ⟨k, a, ha, hi, h⟩
    by_cases hk : k < E.length
    · rw [at_old hk] at ha
      have hi' : k = i ∨ Hb E i k := hi.imp id (fun h => h.old hk)
      exact .inl ⟨by rcases hi' with rfl | h'; exact hk; (have := h'.lt; omega), k, a, ha, hi', h⟩
    · have hl := (List.getElem?_eq_some_iff.1 ha).1
      rw [List.length_append, List.length_singleton] at hl
      obtain rfl : k = E.length := by omega
      rw [at_new] at ha; cases ha
      exact .inr ⟨h, hi.imp Eq.symm id⟩
  · rintro (⟨_, k, a, ha, hi, h⟩ | ⟨h, hi⟩)
    · have hk := (List.getElem?_eq_some_iff.1 ha).1
      exact ⟨k, a, by rw [at_old hk]; exact ha, hi.imp id Hb.snoc, h⟩
    · exact ⟨E.length, x, at_new, hi.imp Eq.symm id, h⟩
theorem ClkInv.nil : ClkInv [] := ⟨fun g => (Rep.nil []).congr (fun i hi => by simp at hi), fun k o => (Rep.nil []).congr (fun i hi => by simp at hi), fun j c h => by simp [stOf] at h⟩
theorem ClkInv.snoc {E : List Event} (h : ClkInv E) {x : Event} (hx : EvOk x) : ClkInv (E ++ [x]) := by
  have h0 : 0 ≤ x.g := by unfold EvOk at hx; omega
  obtain ⟨hr, hp⟩ := (acc_rep h x).tick h0 (fun i e he hg => .inl ⟨i, e, he, .inl rfl, .inl hg⟩)
  have hr' : Rep (E ++ [x]) (tick1 (accS (stOf E) x) x.g) (fun i => i = E.length ∨ Hb (E ++ [x]) i E.length) := hr.congr (fun i _ => by
    rw [ahead_iff]
    constructor
    · rintro (q | q)
      · exact .inl q
      · refine .inr ⟨?_, q⟩
        have := (ahead_iff.2 q).lt; omega
    · rintro (q | q)
      · exact .inl q
      · exact .inr q.2)
  refine ⟨fun g => ?_, fun k o => ?_, fun j c hc => ?_⟩
  · rw [stOf_snoc]
    have hgg : ∀ g, Rep (E ++ [x]) (if g = x.g then tick1 (accS (stOf E) x) x.g else (stOf E).g g) (fun i => (i < E.length ∧ PG E g i) ∨ (x.g = g ∧ (i = E.length ∨ Hb (E ++ [x]) i E.length))) := fun g => by
      by_cases hg : g = x.g
      · rw [if_pos hg]
        refine hr'.congr (fun i _ => ?_)
        constructor
        · rintro (⟨hi, q⟩ | q)
          · exact .inr (ahead_iff.2 (.inl (hg ▸ q)))
          · exact q.2
        · intro q; exact .inr ⟨hg.symm, q⟩
      · rw [if_neg hg]
        refine ((h.g g).snoc x).congr (fun i _ => ?_)
        constructor
        · rintro (q | q)
          · exact q
          · exact absurd q.1.symm hg
        · exact .inl
    unfold addS; simp only
    by_cases h4 : x.kind = 4
    · rw [if_pos h4]
      by_cases hc : g = x.child
      · simp only [hc, if_true]
        have := (hgg x.child).join hr'
        refine this.congr (fun i _ => ?_)
        rw [pg_snoc]
        constructor
        · rintro (q | ⟨_, q⟩)
          · exact .inl (.inl q)
          · exact .inr q
        · rintro ((q | q) | q)
          · exact .inl q
          · exact .inr ⟨.inl q.1, q.2⟩
          · exact .inr ⟨.inr ⟨h4, rfl⟩, q⟩
      · simp only [hc, if_false]
        refine (hgg g).congr (fun i _ => ?_)
        rw [pg_snoc]
        constructor
        · rintro (q | ⟨q | q, r⟩)
          · exact .inl q
          · exact .inr ⟨q, r⟩
          · exact absurd q.2.symm hc
        · rintro (q | q)
          · exact .inl q
          · exact .inr ⟨.inl q.1, q.2⟩
    · rw [if_neg h4]
      refine (hgg g).congr (fun i _ => ?_)
      rw [pg_snoc]
      constructor
      · rintro (q | ⟨q | q, r⟩)
        · exact .inl q
        · exact .inr ⟨q, r⟩
        · exact absurd q.1 h4
      · rintro (q | q)
        · exact .inl q
        · exact .inr ⟨.inl q.1, q.2⟩
  · rw [stOf_snoc]
    unfold addS; simp only
    by_cases hk : x.kind ≠ 4 ∧ EvRel x
    · rw [if_pos hk]
      by_cases hko : k = x.kind ∧ o = x.obj
      · rw [if_pos hko]
        refine (((h.t k o).snoc x).join hr').congr (fun i _ => ?_)
        rw [pt_snoc]
        constructor
        · rintro (q | q)
          · exact .inl q
          · exact .inr q.2
        · rintro (q | q)
          · exact .inl q
          · exact .inr ⟨⟨hko.1.symm, hko.2.symm, hk⟩, q⟩
      · rw [if_neg hko]
        refine ((h.t k o).snoc x).congr (fun i _ => ?_)
        rw [pt_snoc]
        constructor
        · rintro (q | q)
          · exact q
          · exact absurd ⟨q.1.1.symm, q.1.2.1.symm⟩ hko
        · exact .inl
    · rw [if_neg hk]
      refine ((h.t k o).snoc x).congr (fun i _ => ?_)
      rw [pt_snoc]
      constructor
      · rintro (q | q)
        · exact q
        · exact absurd q.1.2.2 hk
      · exact .inl
  · rw [stOf_snoc] at hc
    have hl := stOf_len E
    have hck : (stOf E).ck ++ [tick1 (accS (stOf E) x) x.g] = (addS (stOf E) x).ck := rfl
    rw [← hck] at hc
    by_cases hj : j < E.length
    · rw [List.getElem?_append_left (by omega)] at hc
      obtain ⟨q1, q2⟩ := h.c j c hc
      refine ⟨(q1.snoc x).congr (fun i _ => ?_), fun e he => ?_⟩
      · rw [hb_old hj]
        constructor
        · intro q; exact ⟨by rcases q with rfl | q; exact hj; (have := q.lt; omega), q⟩
        · exact fun q => q.2
      · rw [at_old hj] at he; rw [pos_old hj]; exact q2 e he
    · have hlt := (List.getElem?_eq_some_iff.1 hc).1
      rw [List.length_append, List.length_singleton, hl] at hlt
      obtain rfl : j = E.length := by omega
      rw [List.getElem?_append_right (by omega), hl, Nat.sub_self] at hc
      cases hc
      refine ⟨hr', fun e he => ?_⟩
      rw [at_new] at he; cases he; exact hp
theorem clkInv {E : List Event} (h : ∀ e ∈ E, EvOk e) : ClkInv E := by
  have key : ∀ n, n ≤ E.length → ClkInv (E.take n) := by
    intro n
    induction n with
    | zero => intro _; rw [List.take_zero]; exact ClkInv.nil
    | succ n ih =>
      intro hn
      obtain ⟨e, he⟩ : ∃ e, E[n]? = some e := ⟨_, List.getElem?_eq_getElem (by omega)⟩
      rw [tk_snoc he]
      exact (ih (by omega)).snoc (h e (List.mem_of_getElem? he))
  have := key E.length (Nat.le_refl _); rwa [List.take_length] at this
theorem clk_at {E : List Event} {j : Nat} (hj : j < E.length) : (stOf E).ck[j]? = some (clk E j) := by
  unfold clk
  have := stOf_len E
  rw [List.getElem?_eq_getElem (by omega)]; rfl
/-- An event is before another one just if a chain of leads goes from it to that one. -/
theorem bef_iff {E : List Event} (h : ∀ e ∈ E, EvOk e) {i j : Nat} (hij : i < j) (hj : j < E.length) : befE E (i : Int) (j : Int) = true ↔ Hb E i j := by
  have inv := clkInv h
  obtain ⟨e, he⟩ : ∃ e, E[i]? = some e := ⟨_, List.getElem?_eq_getElem (by omega)⟩
  obtain ⟨h1, h2⟩ := inv.c i _ (clk_at (by omega))
  obtain ⟨k1, k2⟩ := inv.c j _ (clk_at hj)
  have hq := k1.1 i e he
  unfold befE upToE
  rw [decide_eq_true (by omega), Bool.true_and, Int.toNat_natCast, Int.toNat_natCast, he]
  simp only [decide_eq_true_eq]
  rw [h2 e he, ← hq]
  exact ⟨fun q => q.resolve_left (by omega), .inr⟩
theorem bef_nat {E : List Event} {i j : Int} (h : befE E i j = true) : ∃ a b : Nat, i = (a : Int) ∧ j = (b : Int) ∧ a < b ∧ b < E.length := by
  unfold befE at h; rw [Bool.and_eq_true] at h; have := of_decide_eq_true h.1; exact ⟨i.toNat, j.toNat, by omega, by omega, by omega, by omega⟩
theorem bef_leads {E : List Event} (h : ∀ e ∈ E, EvOk e) {i j : Nat} {a b : Event} (hij : i < j) (ha : E[i]? = some a) (hb : E[j]? = some b) (hl : EvLeads a b) : befE E (i : Int) (j : Int) = true :=
  (bef_iff h hij (List.getElem?_eq_some_iff.1 hb).1).2 (.one ha hb hij hl)
theorem bef_trans {E : List Event} (h : ∀ e ∈ E, EvOk e) {i k j : Int} (h1 : befE E i k = true) (h2 : befE E k j = true) : befE E i j = true := by
  obtain ⟨a, b, rfl, rfl, q1, q2⟩ := bef_nat h1
  obtain ⟨b', c, q0, rfl, q3, q4⟩ := bef_nat h2
  obtain rfl : b' = b := by omega
  exact (bef_iff h (by omega) q4).2 (((bef_iff h q1 q2).1 h1).trans ((bef_iff h q3 q4).1 h2))
theorem bef_led {E : List Event} (h : ∀ e ∈ E, EvOk e) {i j : Nat} (hb : befE E (i : Int) (j : Int) = true) : ∃ k a b, k < j ∧ E[k]? = some a ∧ E[j]? = some b ∧ EvLeads a b ∧ (k = i ∨ befE E (i : Int) (k : Int) = true) := by
  obtain ⟨i', j', e1, e2, q1, q2⟩ := bef_nat hb
  obtain rfl : i' = i := by omega
  obtain rfl : j' = j := by omega
  obtain ⟨k, a, b, hk, ha, hb', hl, hi⟩ := Hb.iff.1 ((bef_iff h q1 q2).1 hb)
  exact ⟨k, a, b, hk, ha, hb', hl, hi.imp id (fun q => (bef_iff h q.lt q.rng).2 q)⟩
end Go.Proofs.YtfkbjfbbigbacaaGreatDoor.L
