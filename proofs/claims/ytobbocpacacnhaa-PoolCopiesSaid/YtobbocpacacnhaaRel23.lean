/- Layer 23, the plain law: a pool and the document's stand alike. -/
import Derived.Test.YtobbocpacacnhaaT16
namespace Go.Proofs.Ytobbocpacacnhaa.L
open Go.RowKit Go.MapKept Go.Maps

theorem sorted_eq : ∀ {l l' : List Int}, l.Perm l' → l.Pairwise (fun x y => x < y) → l'.Pairwise (fun x y => x < y) → l = l'
  | [], _, hp, _, _ => (List.nil_perm.1 hp).symm
  | a :: l, [], hp, _, _ => absurd hp.length_eq (by simp)
  | a :: l, b :: l', hp, hs, hs' => by
    have e : a = b := by
      have h1 := (hp.mem_iff (a := a)).1 (by simp)
      have h2 := (hp.mem_iff (a := b)).2 (by simp)
      rcases List.mem_cons.1 h1 with h1 | h1
      · exact h1
      rcases List.mem_cons.1 h2 with h2 | h2
      · exact h2.symm
      have := (List.pairwise_cons.1 hs).1 _ h2
      have := (List.pairwise_cons.1 hs').1 _ h1
      omega
    subst e
    rw [sorted_eq hp.cons_inv (List.pairwise_cons.1 hs).2 (List.pairwise_cons.1 hs').2]
theorem lt_of_nodup {l : List Int} (hs : l.Pairwise (fun x y => x ≤ y)) (hn : l.Nodup) : l.Pairwise (fun x y => x < y) := (hs.and hn).imp (fun {a b} h => by have := h.1; have := h.2; omega)
theorem mem_keys {α : Type} {m : List (Int × α)} {i : Int} : i ∈ keys m ↔ (look m i).isSome = true := by
  cases e : look m i with
  | none => simp [look_none.1 e]
  | some v => simp [keys]; exact ⟨v, look_mem e⟩
theorem keys_eq {α : Type} {ks l : List Int} {m : List (Int × α)} (hp : ks.Perm (keys m)) (hs : ks.Pairwise (fun x y => x ≤ y)) (hn : (keys m).Nodup) (hl : l.Pairwise (fun x y => x < y)) (hm : ∀ i, (look m i).isSome = true ↔ i ∈ l) : ks = l := by
  have hk : ks.Nodup := hp.nodup_iff.2 hn
  refine sorted_eq ((List.perm_ext_iff_of_nodup hk (hl.imp (fun {a b} h => by omega))).2 fun a => ?_) (lt_of_nodup hs hk) hl
  rw [hp.mem_iff, ← hm, mem_keys]
theorem look_perm {α : Type} {m m' : List (Int × α)} (hp : m'.Perm m) (hn : (keys m).Nodup) (i : Int) : look m' i = look m i := by
  have hn' : (keys m').Nodup := ((hp.map _).nodup_iff).2 hn
  cases e : look m i with
  | none =>
    cases q : look m' i with
    | none => rfl
    | some v => rw [look_of_mem hn (hp.mem_iff.1 (look_mem q))] at e; cases e
  | some v => exact look_of_mem hn' (hp.mem_iff.2 (look_mem e))

/-! ### one row of marks -/
def oneAt (l : List One) (i : Int) : Option Mark := (l.find? fun x => decide (x.id = i)).map (·.m)
theorem oneAt_cons (x : One) (l : List One) (i : Int) : oneAt (x :: l) i = if x.id = i then some x.m else oneAt l i := by
  unfold oneAt; rw [List.find?_cons]; by_cases e : x.id = i <;> simp [e]
theorem oneAt_none {l : List One} {i : Int} (h : ∀ x ∈ l, x.id ≠ i) : oneAt l i = none := by
  unfold oneAt; rw [List.find?_eq_none.2 (fun x hx => by simpa using h x hx)]; rfl
theorem oneAt_some {l : List One} {i : Int} : (oneAt l i).isSome = true ↔ i ∈ l.map (·.id) := by
  induction l with
  | nil => simp [oneAt]
  | cons x l ih =>
    rw [oneAt_cons, List.map_cons, List.mem_cons]
    by_cases e : x.id = i
    · simp [e]
    · rw [if_neg e, ih]; simp; omega
theorem oneAt_mem {l : List One} (hs : l.Pairwise fun x y => x.id < y.id) {x : One} (hx : x ∈ l) : oneAt l x.id = some x.m := by
  induction l with
  | nil => cases hx
  | cons y l ih =>
    rw [oneAt_cons]
    obtain ⟨h1, h2⟩ := List.pairwise_cons.1 hs
    rcases List.mem_cons.1 hx with rfl | hx
    · rw [if_pos rfl]
    · rw [if_neg (by have := h1 x hx; omega)]; exact ih h2 hx
theorem oneAt_append (l l' : List One) (i : Int) : oneAt (l ++ l') i = (oneAt l i).or (oneAt l' i) := by
  induction l with
  | nil => simp [oneAt]
  | cons x l ih => rw [List.cons_append, oneAt_cons, oneAt_cons]; split <;> simp [ih]
theorem oneAt_filter {l : List One} {p : One → Bool} {i : Int} (h : ∀ x, x.id = i → p x = true) : oneAt (l.filter p) i = oneAt l i := by
  induction l with
  | nil => rfl
  | cons x l ih =>
    rw [List.filter_cons, oneAt_cons]
    by_cases e : x.id = i
    · rw [if_pos (h x e), oneAt_cons, if_pos e, if_pos e]
    · rw [if_neg e]; split
      · rw [oneAt_cons, if_neg e, ih]
      · exact ih
theorem oneAt_filter_no {l : List One} {p : One → Bool} {i : Int} (h : ∀ x, x.id = i → p x = false) : oneAt (l.filter p) i = none :=
  oneAt_none fun x hx e => by have := (List.mem_filter.1 hx).2; rw [h x e] at this; cases this
theorem ins_true (id : Int) (m : Mark) : ∀ (l acc : List One), l.foldl (insStep id m) (acc, true) = (acc ++ l.filter (fun x => decide (x.id ≠ id)), true)
  | [], acc => by simp
  | x :: l, acc => by
    rw [List.foldl_cons]
    by_cases e : x.id = id
    · rw [show insStep id m (acc, true) x = (acc, true) from by simp [insStep, e], ins_true id m l]; simp [e]
    · rw [show insStep id m (acc, true) x = (acc ++ [x], true) from by simp [insStep, e], ins_true id m l]; simp [e]
theorem ins_false (id : Int) (m : Mark) : ∀ (l acc : List One), (l.Pairwise fun x y => x.id < y.id) →
    (let s := l.foldl (insStep id m) (acc, false); if s.2 = true then s.1 else s.1 ++ [(⟨id, m⟩ : One)]) = acc ++ (l.filter (fun x => decide (x.id < id)) ++ (⟨id, m⟩ : One) :: l.filter (fun x => decide (id < x.id)))
  | [], acc, _ => by simp
  | x :: l, acc, hs => by
    obtain ⟨h1, h2⟩ := List.pairwise_cons.1 hs
    rw [List.foldl_cons]
    by_cases e : x.id < id
    · rw [show insStep id m (acc, false) x = (acc ++ [x], false) from by simp only [insStep]; rw [if_neg (by omega), if_neg (by omega)]]
      rw [ins_false id m l _ h2, List.filter_cons_of_pos (by simpa using e), List.filter_cons_of_neg (by simp; omega)]; simp
    · have ha : l.filter (fun x => decide (x.id < id)) = [] := List.filter_eq_nil_iff.2 fun y hy => by have := h1 y hy; simp; omega
      have hb : l.filter (fun x => decide (x.id ≠ id)) = l.filter (fun x => decide (id < x.id)) := List.filter_congr fun y hy => by have := h1 y hy; rw [decide_eq_true (by omega), decide_eq_true (by omega)]
      rw [List.filter_cons_of_neg (by simpa using e), ha]
      by_cases q : x.id = id
      · rw [show insStep id m (acc, false) x = (acc ++ [(⟨id, m⟩ : One)], true) from by simp only [insStep]; rw [if_pos q, if_pos ⟨trivial, by omega⟩], ins_true, hb, List.filter_cons_of_neg (by simp; omega)]; simp
      · rw [show insStep id m (acc, false) x = (acc ++ [(⟨id, m⟩ : One)] ++ [x], true) from by simp only [insStep]; rw [if_neg q, if_pos ⟨trivial, by omega⟩], ins_true, hb, List.filter_cons_of_pos (by simp; omega)]; simp
theorem insP_eq {l : List One} (hs : l.Pairwise fun x y => x.id < y.id) (id : Int) (m : Mark) : insP l id m = l.filter (fun x => decide (x.id < id)) ++ (⟨id, m⟩ : One) :: l.filter (fun x => decide (id < x.id)) := by
  unfold insP; rw [ins_false id m l [] hs]; rfl
theorem insP_len {l : List One} (hs : l.Pairwise fun x y => x.id < y.id) (id : Int) (m : Mark) : (insP l id m).length ≤ l.length + 1 := by
  rw [insP_eq hs]
  have h1 : ∀ l : List One, (l.filter (fun x => decide (x.id < id))).length + (l.filter (fun x => decide (id < x.id))).length ≤ l.length := by
    intro l
    induction l with
    | nil => simp
    | cons x l ih =>
      rw [List.filter_cons, List.filter_cons]
      by_cases a : x.id < id <;> by_cases b : id < x.id <;> simp [a, b] <;> omega
  have := h1 l
  simp; omega
structure RowOk (m : List (Int × Mark)) (l : List One) : Prop where
  sorted : l.Pairwise fun x y => x.id < y.id
  same : ∀ i, look m i = oneAt l i
  nd : (keys m).Nodup
theorem RowOk.nil : RowOk [] [] := ⟨.nil, fun _ => rfl, by simp [keys]⟩
variable {m : List (Int × Mark)} {l : List One}
theorem RowOk.ks_eq (r : RowOk m l) {ks : List Int} (hp : ks.Perm (keys m)) (hs : ks.Pairwise (fun x y => x ≤ y)) : ks = l.map (·.id) := keys_eq hp hs r.nd (List.pairwise_map.2 r.sorted) (fun i => by rw [r.same, oneAt_some])
theorem RowOk.mark (r : RowOk m l) {x : One} (hx : x ∈ l) : markAt m x.id = x.m := by unfold markAt; rw [r.same, oneAt_mem r.sorted hx]; rfl
theorem RowOk.puts (r : RowOk m l) (id : Int) (mk : Mark) : RowOk (put m id mk) (insP l id mk) := by
  refine ⟨?_, fun i => ?_, nodup_put r.nd _ _⟩
  · rw [insP_eq r.sorted]
    refine List.pairwise_append.2 ⟨r.sorted.filter _, List.pairwise_cons.2 ⟨fun y hy => ?_, r.sorted.filter _⟩, fun x hx y hy => ?_⟩
    · simpa using (List.mem_filter.1 hy).2
    · have h1 : x.id < id := by simpa using (List.mem_filter.1 hx).2
      rcases List.mem_cons.1 hy with rfl | hy
      · exact h1
      · have h2 : id < y.id := by simpa using (List.mem_filter.1 hy).2
        omega
  · rw [insP_eq r.sorted, look_put, oneAt_append, oneAt_cons, r.same]
    by_cases e : id = i
    · subst e
      rw [if_pos rfl, oneAt_filter_no (by intro x hx; simp; omega)]; simp
    · rw [if_neg e]
      simp only
      rw [if_neg e]
      by_cases q : i < id
      · rw [oneAt_filter (by intro x hx; simp; omega), oneAt_filter_no (by intro x hx; simp; omega)]; simp
      · rw [oneAt_filter_no (by intro x hx; simp; omega), oneAt_filter (by intro x hx; simp; omega)]; simp
theorem RowOk.eq {m' : List (Int × Mark)} {l' : List One} (r : RowOk m l) (r' : RowOk m' l') : mEqM m m' ↔ l = l' := by
  constructor
  · rintro ⟨h1, h2⟩
    have hk : (keys m).Perm (l.map (·.id)) := (List.perm_ext_iff_of_nodup r.nd ((List.pairwise_map.2 r.sorted).imp (fun {a b} h => by omega))).2 fun a => by rw [mem_keys, r.same, oneAt_some]
    have hk' : (keys m').Perm (l'.map (·.id)) := (List.perm_ext_iff_of_nodup r'.nd ((List.pairwise_map.2 r'.sorted).imp (fun {a b} h => by omega))).2 fun a => by rw [mem_keys, r'.same, oneAt_some]
    have hsub : keys m ⊆ keys m' := fun a ha => by
      obtain ⟨x, hx, rfl⟩ := List.mem_map.1 ha
      exact mem_keys.2 (by rw [h2 x hx]; rfl)
    have hpm : (keys m).Perm (keys m') := by
      refine (List.perm_ext_iff_of_nodup r.nd r'.nd).2 fun a => ⟨fun h => hsub h, fun h => ?_⟩
      apply Decidable.byContradiction
      intro hn
      have := (List.nodup_cons.2 ⟨hn, r.nd⟩).length_le_of_subset (l₂ := keys m') (fun b hb => (List.mem_cons.1 hb).elim (fun e => e ▸ h) (fun e => hsub e))
      simp [keys] at this; omega
    have he : l.map (·.id) = l'.map (·.id) := sorted_eq (hk.symm.trans (hpm.trans hk')) (List.pairwise_map.2 r.sorted) (List.pairwise_map.2 r'.sorted)
    have hm : ∀ i, i ∈ l.map (·.id) → oneAt l i = oneAt l' i := fun i hi => by
      have h3 := oneAt_some.2 hi
      rw [← r.same] at h3
      obtain ⟨v, hv⟩ := Option.isSome_iff_exists.1 h3
      rw [← r.same, ← r'.same, hv]; exact (h2 _ (look_mem hv)).symm
    have hlen : l.length = l'.length := by have := congrArg List.length he; simpa using this
    refine List.ext_getElem hlen fun i hi hi' => ?_
    have e1 : (l[i]).id = (l'[i]).id := by
      have := congrArg (fun z : List Int => z[i]?) he
      simp only [List.getElem?_map, List.getElem?_eq_getElem hi, List.getElem?_eq_getElem hi', Option.map_some, Option.some.injEq] at this
      exact this
    have e2 : (l[i]).m = (l'[i]).m := by
      have h4 := hm _ (List.mem_map.2 ⟨l[i], List.getElem_mem hi, rfl⟩)
      rw [oneAt_mem r.sorted (List.getElem_mem hi), e1, oneAt_mem r'.sorted (List.getElem_mem hi')] at h4
      exact Option.some.inj h4
    generalize l[i] = x at e1 e2 ⊢; generalize l'[i] = y at e1 e2 ⊢
    obtain ⟨a, b⟩ := x; obtain ⟨c, d⟩ := y
    simp only at e1 e2; subst e1; subst e2; rfl
  · rintro rfl
    have hs : ∀ {m m' : List (Int × Mark)}, RowOk m l → RowOk m' l → m.length ≤ m'.length := fun {m m'} r r' => by
      have := r.nd.length_le_of_subset (l₂ := keys m') (fun a ha => mem_keys.2 (by rw [r'.same, ← r.same]; exact mem_keys.1 ha))
      simpa [keys] using this
    exact ⟨by have := hs r r'; have := hs r' r; omega, fun x hx => by rw [r'.same, ← r.same]; exact look_of_mem r.nd hx⟩
end Go.Proofs.Ytobbocpacacnhaa.L
