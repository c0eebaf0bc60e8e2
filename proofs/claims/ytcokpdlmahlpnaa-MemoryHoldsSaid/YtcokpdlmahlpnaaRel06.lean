/- Layer 6, the plain law: a memory of pages and the document's list stand alike. -/
import Derived.Test.YtcokpdlmahlpnaaT11
namespace Go.Proofs.Ytcokpdlmahlpnaa.L
open Go.RowKit Go.MapKept Go.Maps

/-! ### lists that rise by a number -/
theorem rising_eq {α : Type} (key : α → Int) : ∀ {l l' : List α}, (l.Pairwise fun x y => key x < key y) → (l'.Pairwise fun x y => key x < key y) → (∀ x, x ∈ l ↔ x ∈ l') → l = l'
  | [], [], _, _, _ => rfl
  | [], b :: l', _, _, h => absurd ((h b).2 (by simp)) (by simp)
  | a :: l, [], _, _, h => absurd ((h a).1 (by simp)) (by simp)
  | a :: l, b :: l', hs, hs', h => by
    obtain ⟨h1, h2⟩ := List.pairwise_cons.1 hs
    obtain ⟨h1', h2'⟩ := List.pairwise_cons.1 hs'
    have e : a = b := by
      rcases List.mem_cons.1 ((h a).1 (by simp)) with q | q
      · exact q
      rcases List.mem_cons.1 ((h b).2 (by simp)) with r | r
      · exact r.symm
      have := h1 _ r
      have := h1' _ q
      omega
    subst e
    rw [rising_eq key h2 h2' fun x => ?_]
    have hx := h x
    simp only [List.mem_cons] at hx
    constructor
    · intro hm
      rcases hx.1 (.inr hm) with rfl | q
      · have := h1 _ hm; omega
      · exact q
    · intro hm
      rcases hx.2 (.inr hm) with rfl | q
      · have := h1' _ hm; omega
      · exact q
theorem lt_of_nodup {l : List Int} (hs : l.Pairwise (fun x y => x ≤ y)) (hn : l.Nodup) : l.Pairwise (fun x y => x < y) := (hs.and hn).imp (fun {a b} h => by have := h.1; have := h.2; omega)
theorem mem_keys {α : Type} {m : List (Int × α)} {i : Int} : i ∈ keys m ↔ (look m i).isSome = true := by
  cases e : look m i with
  | none => simp [look_none.1 e]
  | some v => simp [keys]; exact ⟨v, look_mem e⟩
theorem look_perm {α : Type} {m m' : List (Int × α)} (hp : m'.Perm m) (hn : (keys m).Nodup) (i : Int) : look m' i = look m i := by
  have hn' : (keys m').Nodup := ((hp.map _).nodup_iff).2 hn
  cases e : look m i with
  | none =>
    cases q : look m' i with
    | none => rfl
    | some v => rw [look_of_mem hn (hp.mem_iff.1 (look_mem q))] at e; cases e
  | some v => exact look_of_mem hn' (hp.mem_iff.2 (look_mem e))

/-! ### the document's list -/
abbrev Rise (L : List Cell6) : Prop := L.Pairwise fun x y => x.addr < y.addr
theorem loadM_cons (x : Cell6) (L : List Cell6) (a : Int) : loadM (x :: L) a = if x.addr = a then x.word else loadM L a := by
  unfold loadM; rw [List.find?_cons]; by_cases e : x.addr = a <;> simp [e]
theorem loadM_none {L : List Cell6} {a : Int} (h : ∀ x ∈ L, x.addr ≠ a) : loadM L a = 0 := by
  unfold loadM; rw [List.find?_eq_none.2 (fun x hx => by simpa using h x hx)]; rfl
theorem loadM_mem {L : List Cell6} (hs : Rise L) {x : Cell6} (hx : x ∈ L) : loadM L x.addr = x.word := by
  induction L with
  | nil => cases hx
  | cons y L ih =>
    obtain ⟨h1, h2⟩ := List.pairwise_cons.1 hs
    rw [loadM_cons]
    rcases List.mem_cons.1 hx with rfl | hx
    · rw [if_pos rfl]
    · rw [if_neg (by have := h1 _ hx; omega)]; exact ih h2 hx
theorem mem_loadM {L : List Cell6} {a : Int} (h : loadM L a ≠ 0) : (⟨a, loadM L a⟩ : Cell6) ∈ L := by
  induction L with
  | nil => exact absurd rfl h
  | cons y L ih =>
    rw [loadM_cons] at h ⊢
    by_cases e : y.addr = a
    · rw [if_pos e] at h ⊢; subst e; exact .head _
    · rw [if_neg e] at h ⊢; exact .tail _ (ih h)
theorem ins6_true (a wd : Int) : ∀ (l acc : List Cell6), l.foldl (insStep6 a wd) (acc, true) = (acc ++ l.filter (fun x => decide (x.addr ≠ a)), true)
  | [], acc => by simp
  | x :: l, acc => by
    rw [List.foldl_cons]
    by_cases e : x.addr = a
    · rw [show insStep6 a wd (acc, true) x = (acc, true) from by simp [insStep6, e], ins6_true a wd l]; simp [e]
    · rw [show insStep6 a wd (acc, true) x = (acc ++ [x], true) from by simp [insStep6, e], ins6_true a wd l]; simp [e]
theorem ins6_false (a wd : Int) : ∀ (l acc : List Cell6), Rise l →
    (let s := l.foldl (insStep6 a wd) (acc, false); if s.2 = true then s.1 else s.1 ++ [(⟨a, wd⟩ : Cell6)]) = acc ++ (l.filter (fun x => decide (x.addr < a)) ++ (⟨a, wd⟩ : Cell6) :: l.filter (fun x => decide (a < x.addr)))
  | [], acc, _ => by simp
  | x :: l, acc, hs => by
    obtain ⟨h1, h2⟩ := List.pairwise_cons.1 hs
    rw [List.foldl_cons]
    by_cases e : x.addr < a
    · rw [show insStep6 a wd (acc, false) x = (acc ++ [x], false) from by simp only [insStep6]; rw [if_neg (by omega), if_neg (by omega)]]
      rw [ins6_false a wd l _ h2, List.filter_cons_of_pos (by simpa using e), List.filter_cons_of_neg (by simp; omega)]; simp
    · have ha : l.filter (fun x => decide (x.addr < a)) = [] := List.filter_eq_nil_iff.2 fun y hy => by have := h1 y hy; simp; omega
      have hb : l.filter (fun x => decide (x.addr ≠ a)) = l.filter (fun x => decide (a < x.addr)) := List.filter_congr fun y hy => by have := h1 y hy; rw [decide_eq_true (by omega), decide_eq_true (by omega)]
      rw [List.filter_cons_of_neg (by simpa using e), ha]
      by_cases q : x.addr = a
      · rw [show insStep6 a wd (acc, false) x = (acc ++ [(⟨a, wd⟩ : Cell6)], true) from by simp only [insStep6]; rw [if_pos q, if_pos ⟨trivial, by omega⟩], ins6_true, hb, List.filter_cons_of_neg (by simp; omega)]; simp
      · rw [show insStep6 a wd (acc, false) x = (acc ++ [(⟨a, wd⟩ : Cell6)] ++ [x], true) from by simp only [insStep6]; rw [if_neg q, if_pos ⟨trivial, by omega⟩], ins6_true, hb, List.filter_cons_of_pos (by simp; omega)]; simp
theorem insM_zero (L : List Cell6) (a : Int) : insM L a 0 = L.filter (fun x => decide (x.addr ≠ a)) := by
  unfold insM; rw [decide_eq_true rfl, ins6_true]; simp
theorem insM_word {L : List Cell6} (hs : Rise L) {a wd : Int} (h : wd ≠ 0) : insM L a wd = L.filter (fun x => decide (x.addr < a)) ++ (⟨a, wd⟩ : Cell6) :: L.filter (fun x => decide (a < x.addr)) := by
  unfold insM; rw [decide_eq_false h]; exact ins6_false a wd L [] hs
theorem insM_mem {L : List Cell6} (hs : Rise L) {a wd : Int} {x : Cell6} : x ∈ insM L a wd ↔ (x.addr ≠ a ∧ x ∈ L) ∨ (wd ≠ 0 ∧ x = ⟨a, wd⟩) := by
  by_cases h : wd = 0
  · subst h; rw [insM_zero]; simp [List.mem_filter, and_comm]
  · rw [insM_word hs h]
    simp only [List.mem_append, List.mem_cons, List.mem_filter, decide_eq_true_eq]
    constructor
    · rintro (⟨h1, h2⟩ | rfl | ⟨h1, h2⟩)
      · exact .inl ⟨by omega, h1⟩
      · exact .inr ⟨h, rfl⟩
      · exact .inl ⟨by omega, h1⟩
    · rintro (⟨h1, h2⟩ | ⟨-, rfl⟩)
      · rcases Int.lt_trichotomy x.addr a with q | q | q
        · exact .inl ⟨h2, q⟩
        · exact absurd q h1
        · exact .inr (.inr ⟨h2, q⟩)
      · exact .inr (.inl rfl)
theorem insM_rise {L : List Cell6} (hs : Rise L) (a wd : Int) : Rise (insM L a wd) := by
  by_cases h : wd = 0
  · subst h; rw [insM_zero]; exact hs.filter _
  · rw [insM_word hs h]
    refine List.pairwise_append.2 ⟨hs.filter _, List.pairwise_cons.2 ⟨fun y hy => by simpa using (List.mem_filter.1 hy).2, hs.filter _⟩, fun x hx y hy => ?_⟩
    have h1 : x.addr < a := by simpa using (List.mem_filter.1 hx).2
    rcases List.mem_cons.1 hy with rfl | hy
    · exact h1
    · have h2 : a < y.addr := by simpa using (List.mem_filter.1 hy).2
      omega
theorem insM_len {L : List Cell6} (hs : Rise L) (a wd : Int) : (insM L a wd).length ≤ L.length + 1 := by
  by_cases h : wd = 0
  · subst h; rw [insM_zero]; have := List.length_filter_le (fun x : Cell6 => decide (x.addr ≠ a)) L; omega
  · rw [insM_word hs h]
    have h1 : ∀ l : List Cell6, (l.filter (fun x => decide (x.addr < a))).length + (l.filter (fun x => decide (a < x.addr))).length ≤ l.length := by
      intro l
      induction l with
      | nil => simp
      | cons x l ih =>
        rw [List.filter_cons, List.filter_cons]
        by_cases p : x.addr < a <;> by_cases q : a < x.addr <;> simp [p, q] <;> omega
    have := h1 L
    simp; omega
theorem loadM_ins {L : List Cell6} (hs : Rise L) (a wd b : Int) : loadM (insM L a wd) b = if b = a then wd else loadM L b := by
  have hr := insM_rise hs a wd
  by_cases e : b = a
  · subst e
    rw [if_pos rfl]
    by_cases h : wd = 0
    · subst h; exact loadM_none fun x hx => by rcases (insM_mem hs).1 hx with ⟨h1, -⟩ | ⟨h1, -⟩; exact h1; exact absurd rfl h1
    · exact loadM_mem (x := ⟨b, wd⟩) hr ((insM_mem hs).2 (.inr ⟨h, rfl⟩))
  · rw [if_neg e]
    by_cases q : ∃ x ∈ L, x.addr = b
    · obtain ⟨x, hx, rfl⟩ := q
      rw [loadM_mem hs hx]
      exact loadM_mem hr ((insM_mem hs).2 (.inl ⟨e, hx⟩))
    · rw [loadM_none (fun x hx h => q ⟨x, hx, h⟩)]
      refine loadM_none fun x hx h => ?_
      rcases (insM_mem hs).1 hx with ⟨h1, h2⟩ | ⟨h1, rfl⟩
      · exact q ⟨x, h2, h⟩
      · exact e h.symm
theorem from_mem {L : List Cell6} (hs : Rise L) {a : Int} {x : Cell6} : x ∈ fromM L a ↔ x ∈ L ∧ a ≤ x.addr := by
  unfold fromM
  induction L with
  | nil => simp
  | cons y L ih =>
    obtain ⟨h1, h2⟩ := List.pairwise_cons.1 hs
    by_cases e : y.addr < a
    · rw [List.dropWhile_cons_of_pos (by simpa using e), ih h2]
      constructor
      · exact fun h => ⟨.tail _ h.1, h.2⟩
      · rintro ⟨h, h'⟩
        rcases List.mem_cons.1 h with rfl | h
        · omega
        · exact ⟨h, h'⟩
    · rw [List.dropWhile_cons_of_neg (by simpa using e)]
      constructor
      · intro h
        refine ⟨h, ?_⟩
        rcases List.mem_cons.1 h with rfl | h
        · omega
        · have := h1 _ h; omega
      · exact fun h => h.1
theorem from_rise {L : List Cell6} (hs : Rise L) (a : Int) : Rise (fromM L a) := hs.sublist (List.dropWhile_sublist _)
end Go.Proofs.Ytcokpdlmahlpnaa.L
