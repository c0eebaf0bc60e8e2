/- ReportHolds: the plain law. -/
import Derived.Test.YtgkhaoogfpnbbaaWorks27
namespace Go.Proofs.Ytgkhaoogfpnbbaa.L

/-- Have two flags the same pair? -/
def alike (g f : Flag) : Bool := (decide (g.e.s = f.e.s) && decide (g.l.s = f.l.s)) || (decide (g.e.s = f.l.s) && decide (g.l.s = f.e.s))
def seenIn (F : List Flag) (f : Flag) : Bool := F.any fun g => alike g f
/-- Those that may be, the first of each pair. -/
structure FD where
  F : List Flag
  D : List Flag
def FD.step (s : FD) (f : Flag) : FD := if f.ok = true then ⟨s.F ++ [f], if seenIn s.F f = true then s.D else s.D ++ [f]⟩ else s
def fdOf : List Flag → FD := fun l => l.foldl FD.step ⟨[], []⟩
theorem fdOf_snoc (l : List Flag) (x : Flag) : fdOf (l ++ [x]) = (fdOf l).step x := by simp [fdOf]
theorem seenIn_snoc (F : List Flag) (g f : Flag) : seenIn (F ++ [g]) f = (seenIn F f || alike g f) := by simp [seenIn]

theorem Site.cmp_neg (a b : Site) : b.cmp a = - a.cmp b := by
  unfold Site.cmp orI cmpI
  repeat' split
  all_goals omega
theorem Site.cmp_zero {a b : Site} (h : a.cmp b = 0) : a = b := by
  obtain ⟨af, ap⟩ := a
  obtain ⟨bf, bp⟩ := b
  unfold Site.cmp orI cmpI at h
  simp only at h
  have : af = bf ∧ ap = bp := by
    repeat' split at h
    all_goals omega
  rw [this.1, this.2]
theorem Site.cmp_self (a : Site) : a.cmp a = 0 := by
  unfold Site.cmp
  rw [cmpI_eq, cmpI_eq]; rfl

theorem pair_same (a b c d : Site) : Pair.of a b = Pair.of c d ↔ (a = c ∧ b = d) ∨ (a = d ∧ b = c) := by
  have h1 := Site.cmp_neg a b
  have h2 := Site.cmp_neg c d
  constructor
  · unfold Pair.of
    intro h
    split at h <;> split at h <;> simp only [Pair.mk.injEq] at h
    · exact .inl ⟨h.2, h.1⟩
    · exact .inr ⟨h.2, h.1⟩
    · exact .inr h
    · exact .inl h
  · rintro (⟨rfl, rfl⟩ | ⟨rfl, rfl⟩)
    · rfl
    · unfold Pair.of
      by_cases h3 : 0 < a.cmp b
      · rw [if_pos h3, if_neg (by omega)]
      · by_cases h4 : 0 < b.cmp a
        · rw [if_neg h3, if_pos h4]
        · rw [if_neg h3, if_neg h4, Site.cmp_zero (a := a) (b := b) (by omega)]
theorem alike_iff (g f : Flag) : alike g f = true ↔ Pair.of g.e.s g.l.s = Pair.of f.e.s f.l.s := by
  rw [pair_same]; simp [alike]

/-- A table to which F came, in terms of the firsts D. -/
structure Stands (T : Tab) (most : Nat) (F D : List Flag) : Prop where
  most_ : T.most = most
  came_ : ∀ f, came T.m (Pair.of f.e.s f.l.s) = 0 ↔ seenIn F f = false
  pos : ∀ x, 0 ≤ came T.m x
  l_ : T.l = D.take most
  d_ : (T.dropped : Int) + T.l.length = D.length

theorem Stands.start (most : Nat) : Stands ⟨most, 0, [], []⟩ most [] [] := ⟨rfl, fun f => by simp [came, look, seenIn], fun x => by simp [came, look], by simp, by simp⟩
theorem Stands.step {T : Tab} {most : Nat} {s : FD} (h : Stands T most s.F s.D) (f : Flag) (hf : f.ok = true) : Stands (T.come f) most (s.step f).F (s.step f).D := by
  have hc := h.came_ f
  have hp := h.pos (Pair.of f.e.s f.l.s)
  have key : ∀ g : Flag, came (put T.m (Pair.of f.e.s f.l.s) (came T.m (Pair.of f.e.s f.l.s) + 1)) (Pair.of g.e.s g.l.s) = 0 ↔ seenIn (s.F ++ [f]) g = false := by
    intro g
    rw [came_put, seenIn_snoc]
    by_cases e : Pair.of f.e.s f.l.s = Pair.of g.e.s g.l.s
    · rw [if_pos e, (alike_iff f g).2 e]
      simp
      omega
    · rw [if_neg e, h.came_ g]
      have : alike f g = false := by
        cases ha : alike f g
        · rfl
        · exact absurd ((alike_iff f g).1 ha) e
      rw [this]; simp
  have key2 : ∀ x, 0 ≤ came (put T.m (Pair.of f.e.s f.l.s) (came T.m (Pair.of f.e.s f.l.s) + 1)) x := by
    intro x
    rw [came_put]
    split
    · omega
    · exact h.pos x
  have hl := h.l_
  have hd := h.d_
  have hm := h.most_
  unfold Tab.come FD.step
  rw [if_pos hf, if_pos hf]
  unfold Tab.take
  by_cases h0 : came T.m (Pair.of f.e.s f.l.s) = 0
  · rw [if_pos h0]
    have hs := hc.1 h0
    have hlen : T.l.length = min most s.D.length := by rw [hl, List.length_take]
    by_cases h2 : T.most ≤ T.l.length
    · rw [if_pos h2, hs]
      refine ⟨hm, key, key2, ?_, ?_⟩
      · show T.l = (s.D ++ [f]).take most
        rw [List.take_append_of_le_length (by omega)]; exact hl
      · show T.dropped + 1 + T.l.length = ((s.D ++ [f]).length : Int)
        simp; omega
    · rw [if_neg h2, hs]
      refine ⟨hm, key, key2, ?_, ?_⟩
      · show T.l ++ [f] = (s.D ++ [f]).take most
        rw [List.take_of_length_le (by simp; omega), hl, List.take_of_length_le (by omega)]
      · show T.dropped + ((T.l ++ [f]).length : Int) = ((s.D ++ [f]).length : Int)
        simp; omega
  · rw [if_neg h0]
    have hs : seenIn s.F f = true := by
      cases e : seenIn s.F f
      · exact absurd (hc.2 e) h0
      · rfl
    rw [hs]
    exact ⟨hm, key, key2, hl, hd⟩

theorem fd_step_no (s : FD) (f : Flag) (hf : f.ok = false) : s.step f = s := by unfold FD.step; rw [hf]; rfl
theorem fd_fine (l : List Flag) : fine (fdOf l).F = true := by
  unfold fdOf
  have : ∀ (l : List Flag) (s : FD), fine s.F = true → fine (l.foldl FD.step s).F = true := by
    intro l
    induction l with
    | nil => exact fun s h => h
    | cons x l ih =>
      intro s h
      refine ih _ ?_
      unfold FD.step
      split
      · rename_i hx
        rw [fine_snoc, h, hx]; rfl
      · exact h
  exact this l _ rfl
theorem fd_step_len (s : FD) (x : Flag) : (s.step x).F.length ≤ s.F.length + 1 ∧ (s.step x).D.length ≤ s.D.length + 1 := by
  unfold FD.step
  by_cases hx : x.ok = true
  · rw [if_pos hx]
    refine ⟨by simp, ?_⟩
    show (if seenIn s.F x = true then s.D else s.D ++ [x]).length ≤ _
    split
    · exact Nat.le_succ _
    · simp
  · rw [if_neg hx]
    exact ⟨Nat.le_succ _, Nat.le_succ _⟩
theorem fd_len (l : List Flag) : (fdOf l).F.length ≤ l.length ∧ (fdOf l).D.length ≤ l.length := by
  unfold fdOf
  have : ∀ (l : List Flag) (s : FD) n, s.F.length ≤ n → s.D.length ≤ n → (l.foldl FD.step s).F.length ≤ n + l.length ∧ (l.foldl FD.step s).D.length ≤ n + l.length := by
    intro l
    induction l with
    | nil => exact fun s n h k => ⟨h, k⟩
    | cons x l ih =>
      intro s n h k
      have hs := fd_step_len s x
      have := ih (s.step x) (n + 1) (by omega) (by omega)
      rw [List.length_cons, show n + (l.length + 1) = n + 1 + l.length from by omega]
      exact this
  simpa using this l ⟨[], []⟩ 0 (by simp) (by simp)
theorem fd_stands (most : Nat) (l : List Flag) : Stands (Tab.runs ⟨most, 0, [], []⟩ (fdOf l).F) most (fdOf l).F (fdOf l).D := by
  unfold fdOf
  have : ∀ (l : List Flag) (s : FD), Stands (Tab.runs ⟨most, 0, [], []⟩ s.F) most s.F s.D → Stands (Tab.runs ⟨most, 0, [], []⟩ (l.foldl FD.step s).F) most (l.foldl FD.step s).F (l.foldl FD.step s).D := by
    intro l
    induction l with
    | nil => exact fun s h => h
    | cons x l ih =>
      intro s h
      refine ih _ ?_
      cases hx : x.ok
      · rw [fd_step_no s x hx]; exact h
      · have := h.step x hx
        have e : (s.step x).F = s.F ++ [x] := by unfold FD.step; rw [if_pos hx]
        rw [← runs_snoc, ← e] at this
        exact this
  exact this l _ (Stands.start most)

/-- What Of tells of those that may be. -/
theorem holds27 (most : Nat) (l : List Flag) : keptOf ⟨most, 0, [], []⟩ (fdOf l).F = (fdOf l).D.take most ∧ (Tab.runs ⟨most, 0, [], []⟩ (fdOf l).F).dropped + (((fdOf l).D.take most).length : Int) = (fdOf l).D.length := by
  have h := fd_stands most l
  have e := runs_l ⟨most, 0, [], []⟩ (fdOf l).F
  simp only [List.nil_append] at e
  exact ⟨by rw [← e]; exact h.l_, by rw [← h.l_]; exact h.d_⟩
end Go.Proofs.Ytgkhaoogfpnbbaa.L
