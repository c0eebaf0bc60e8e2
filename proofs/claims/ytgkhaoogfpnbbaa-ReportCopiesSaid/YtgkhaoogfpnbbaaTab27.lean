/- Layer 27: a table, as one piece of a world. -/
import Derived.Test.YtgkhaoogfpnbbaaT4
import Derived.Test.YtgkhaoogfpnbbaaRep27
namespace Go.Proofs.Ytgkhaoogfpnbbaa.L
open Go.RowKit Go.MapKept Go.Maps

/-- The set of pairs of a table. -/
def PairsR (p b : Nat) (m : List (Pair × Int)) : Res := allR [Cel p #[Value.map (some b)] 91, mapR b Pair.v (fun a : Int => Value.int .i64 a) m]
theorem PairsR.mk {w : World} {p b : Nat} {m : List (Pair × Int)} (hc : (Cel p #[Value.map (some b)] 91).p w) (hm : (mapR b Pair.v (fun a : Int => Value.int .i64 a) m).p w) : (PairsR p b m).p w ∧ ∀ x ∈ (PairsR p b m).fp, x < w.heap.size := by
  obtain ⟨es, clock, hb, -⟩ := show mapAt w b Pair.v (fun a : Int => Value.int .i64 a) m from hm
  have hc' : w.heap[p]? = some (.cells #[Value.map (some b)] 91 (0, 0)) := hc
  have e3 : p ≠ b := fun e => by subst e; rw [hb] at hc'; cases hc'
  refine ⟨⟨?_, ?_⟩, fun x hx => ?_⟩
  · simpa [Cel, mapR] using e3
  · simp only [List.mem_cons, List.not_mem_nil, or_false, forall_eq_or_imp, forall_eq]
    exact ⟨hc, hm⟩
  · simp [PairsR, mem_allR, Cel, mapR] at hx
    rcases hx with rfl | rfl
    · exact lt_of_block hc'
    · exact lt_of_block hb
/-- A table. -/
def TabR (t p b : Nat) (A : Option Addr) (c : Nat) (T : Tab) : Res :=
  allR [Cel t #[Value.pointer (some ⟨p, 0, none⟩), Value.int .i64 T.most, Value.int .i64 T.dropped, Value.slice A T.l.length c] 61, Cel p #[Value.map (some b)] 91, mapR b Pair.v (fun a : Int => Value.int .i64 a) T.m, rowR 43 10 enFlag (Value.slice A T.l.length c) T.l]

theorem TX.form {w : World} {base t p b : Nat} {v : Value} {T : Tab} (h : TX w base t p b v T) : ∃ A c, v = .slice A T.l.length c := by
  obtain ⟨A, c, h, -⟩ := own_form h.own
  exact ⟨A, c, h⟩
theorem TabR.of {w : World} {base t p b : Nat} {A : Option Addr} {c : Nat} {T : Tab} (h : TX w base t p b (.slice A T.l.length c) T) : (TabR t p b A c T).p w := by
  have hcell := h.cell
  have hp := h.px.cell
  obtain ⟨es, clock, hb, -⟩ := h.px.holds
  have hg : ∀ g, (Value.slice A T.l.length c).ownBlock = some g → ∃ cs, w.heap[g]? = some (.cells cs 43 (0, 0)) := fun g hg => by
    rcases h.own.2 with ⟨h1, -⟩ | ⟨g', cap, cur, h1, -, h2, -⟩
    · rw [h1] at hg; simp [Value.ownBlock] at hg
    · rw [h1] at hg; simp [Value.ownBlock] at hg; subst hg; exact ⟨cur, h2⟩
  have e1 : t ≠ p := fun e => by subst e; rw [hp] at hcell; cases hcell
  have e2 : t ≠ b := fun e => by subst e; rw [hb] at hcell; cases hcell
  have e3 : p ≠ b := fun e => by subst e; rw [hb] at hp; cases hp
  have e4 : ∀ g, (Value.slice A T.l.length c).ownBlock = some g → t ≠ g ∧ p ≠ g ∧ b ≠ g := fun g hgg => by
    obtain ⟨cs, h1⟩ := hg g hgg
    refine ⟨fun e => ?_, fun e => ?_, fun e => ?_⟩ <;> subst e
    · rw [h1] at hcell; cases hcell
    · rw [h1] at hp; cases hp
    · rw [h1] at hb; cases hb
  refine ⟨?_, ?_⟩
  · simp only [List.pairwise_cons, List.mem_cons, List.not_mem_nil, or_false, forall_eq_or_imp, forall_eq]
    simp only [Cel, mapR, rowR, List.mem_cons, List.not_mem_nil, or_false, forall_eq, Option.mem_toList, false_implies, implies_true, List.Pairwise.nil, and_true]
    exact ⟨⟨e1, e2, fun h => (e4 _ h).1 rfl⟩, ⟨e3, fun h => (e4 _ h).2.1 rfl⟩, fun h => (e4 _ h).2.2 rfl⟩
  · simp only [List.mem_cons, List.not_mem_nil, or_false, forall_eq_or_imp, forall_eq]
    exact ⟨hcell, hp, h.px.holds, owns_base h.own⟩
theorem TabR.tx {w : World} {t p b : Nat} {A : Option Addr} {c : Nat} {T : Tab} (h : (TabR t p b A c T).p w) : TX w 0 t p b (.slice A T.l.length c) T :=
  ⟨h.2 _ (.head _), ⟨h.2 _ (.tail _ (.head _)), h.2 _ (.tail _ (.tail _ (.head _)))⟩, h.2 _ (.tail _ (.tail _ (.tail _ (.head _))))⟩
theorem TabR.fp {t p b : Nat} {A : Option Addr} {c : Nat} {T : Tab} (x : Nat) : x ∈ (TabR t p b A c T).fp ↔ x = t ∨ x = p ∨ x = b ∨ (Value.slice A T.l.length c).ownBlock = some x := by
  simp [TabR, mem_allR, Cel, mapR, rowR]

theorem Take_U (w : World) (t p b : Nat) (A : Option Addr) (c : Nat) (T : Tab) (f : Flag) (h : (TabR t p b A c T).p w) (hl : ∀ x ∈ (TabR t p b A c T).fp, x < w.heap.size) (hf : f.ok = true) (hn : ∃ n, T.Fine n ∧ n < 1000) :
    Calls Try.prog 14 #[.pointer (some ⟨t, 0, none⟩), f.v] w fun e w' => ∃ (A' : Option Addr) (c' : Nat), e = .returned (.tuple #[.bool (T.take f).2, .int .i64 0]) ∧ Upd (TabR t p b A c T) (TabR t p b A' c' (T.take f).1) w w' := by
  obtain ⟨n, hn, hn1⟩ := hn
  refine (Take_fine w 0 t p b _ T (TabR.tx h) f hf n hn hn1 (Nat.zero_le _)).mono ?_
  rintro e w' ⟨v', rfl, hx, hv, hfr⟩
  obtain ⟨A', c', rfl⟩ := hx.form
  refine ⟨A', c', rfl, hfr.mono (fun i _ hi => (TabR.fp i).2 ?_), TabR.of hx, fun x hx' => ?_⟩
  · rcases hi with rfl | rfl
    · exact .inl rfl
    · exact .inr (.inr (.inl rfl))
  · rcases (TabR.fp x).1 hx' with rfl | rfl | rfl | h1
    · exact ⟨.inl ((TabR.fp _).2 (.inl rfl)), Nat.lt_of_lt_of_le (hl _ ((TabR.fp _).2 (.inl rfl))) hfr.size⟩
    · exact ⟨.inl ((TabR.fp _).2 (.inr (.inl rfl))), Nat.lt_of_lt_of_le (hl _ ((TabR.fp _).2 (.inr (.inl rfl)))) hfr.size⟩
    · exact ⟨.inl ((TabR.fp _).2 (.inr (.inr (.inl rfl)))), Nat.lt_of_lt_of_le (hl _ ((TabR.fp _).2 (.inr (.inr (.inl rfl))))) hfr.size⟩
    · refine ⟨?_, ?_⟩
      · rcases hv x h1 with h2 | h2
        · exact .inl ((TabR.fp _).2 (.inr (.inr (.inr h2))))
        · exact .inr h2
      · rcases hx.own.2 with ⟨h2, -⟩ | ⟨g', cap, cur, h2, -, h3, -⟩
        · rw [h2] at h1; simp [Value.ownBlock] at h1
        · rw [h2] at h1; simp [Value.ownBlock] at h1; subst h1; exact lt_of_block h3
theorem New_C (w : World) (most : Int) (h : 0 ≤ most ∧ most ≤ 65536) :
    Calls Try.prog 13 #[.int .i64 most] w fun e w' => ∃ t p b : Nat, e = .returned (.tuple #[.pointer (some ⟨t, 0, none⟩), .int .i64 0]) ∧ Made (TabR t p b none 0 ⟨most, 0, [], []⟩) w w' := by
  refine (tNew_yes most w h).mono ?_
  rintro e w' ⟨t, p, b, rfl, ht, hp, hb, hx, hf⟩
  refine ⟨t, p, b, rfl, hf, TabR.of hx, fun x hx' => ?_⟩
  obtain ⟨es, clock, hbb, -⟩ := hx.px.holds
  rcases (TabR.fp x).1 hx' with rfl | rfl | rfl | h1
  · exact ⟨ht, lt_of_block hx.cell⟩
  · exact ⟨hp, lt_of_block hx.px.cell⟩
  · exact ⟨hb, lt_of_block hbb⟩
  · simp [Value.ownBlock] at h1
end Go.Proofs.Ytgkhaoogfpnbbaa.L
