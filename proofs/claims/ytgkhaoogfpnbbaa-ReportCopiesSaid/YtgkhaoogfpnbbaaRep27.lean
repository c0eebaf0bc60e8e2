/- Layer 27: the document's answer and the program's, side by side. -/
import Derived.Test.YtgkhaoogfpnbbaaT2
import Derived.Test.YtgkhaoogfpnbbaaFlagRow
namespace Go.Proofs.Ytgkhaoogfpnbbaa.L
open Go.RowKit

/-- The document's table and the program's say the same. -/
structure Agree (s : RT) (T : Tab) : Prop where
  most_ : s.most = T.most
  l_ : s.L = T.l
  mem : ∀ x, x ∈ s.P ↔ came T.m x ≠ 0
  pos : ∀ x, 0 ≤ came T.m x
  len : (s.P.length : Int) = s.L.length + T.dropped

theorem Agree.start (most : Int) : Agree ⟨most, [], []⟩ ⟨most, 0, [], []⟩ := ⟨rfl, rfl, fun x => by simp [came, look], fun x => by simp [came, look], by simp⟩
theorem Agree.takes {s : RT} {T : Tab} (h : Agree s T) {f : Flag} {s' : RT} {r : Bool} (k : s.Takes f s' r) : Agree s' (T.take f).1 ∧ r = (T.take f).2 := by
  obtain ⟨h1, h2, h3, h4, h5⟩ := h
  unfold RT.Takes at k
  unfold Tab.take
  have hp := h4 (Pair.of f.e.s f.l.s)
  have pos' : ∀ x, 0 ≤ came (put T.m (Pair.of f.e.s f.l.s) (came T.m (Pair.of f.e.s f.l.s) + 1)) x := fun x => by
    rw [came_put]; split
    · omega
    · exact h4 x
  have mem' : ∀ x, (x ∈ s.P ∨ x = Pair.of f.e.s f.l.s) ↔ came (put T.m (Pair.of f.e.s f.l.s) (came T.m (Pair.of f.e.s f.l.s) + 1)) x ≠ 0 := fun x => by
    rw [came_put]
    by_cases e : Pair.of f.e.s f.l.s = x
    · rw [if_pos e]; simp [e.symm]; omega
    · rw [if_neg e, h3 x]
      have : ¬ x = Pair.of f.e.s f.l.s := fun h => e h.symm
      simp [this]
  by_cases hm : Pair.of f.e.s f.l.s ∈ s.P
  · rw [if_pos hm] at k
    obtain ⟨rfl, rfl⟩ := k
    rw [if_neg ((h3 _).1 hm)]
    refine ⟨⟨h1, h2, fun x => ?_, pos', h5⟩, rfl⟩
    rw [← mem' x]
    exact ⟨.inl, fun h => h.elim id (fun e => e ▸ hm)⟩
  · rw [if_neg hm] at k
    obtain ⟨j, hj, e1, e2, e3⟩ := k
    have h0 : came T.m (Pair.of f.e.s f.l.s) = 0 := by
      have := mt (h3 _).2 hm
      simpa using this
    have hP : ∀ x, x ∈ s'.P ↔ (x ∈ s.P ∨ x = Pair.of f.e.s f.l.s) := fun x => by
      rw [e1]
      have key : x ∈ s.P ↔ x ∈ s.P.take j ∨ x ∈ s.P.drop j := by rw [← List.mem_append, List.take_append_drop]
      rw [key, List.mem_append, List.mem_append, List.mem_singleton]
      constructor
      · rintro ((h | h) | h)
        · exact .inl (.inl h)
        · exact .inr h
        · exact .inl (.inr h)
      · rintro ((h | h) | h)
        · exact .inl (.inl h)
        · exact .inr h
        · exact .inl (.inr h)
    have hl : s'.P.length = s.P.length + 1 := by rw [e1]; simp; omega
    rw [if_pos h0]
    rw [h1, h2] at e3
    by_cases h6 : T.most ≤ T.l.length
    · rw [if_pos h6] at e3 ⊢
      refine ⟨⟨e2.trans h1, e3.1, fun x => (hP x).trans (mem' x), pos', ?_⟩, e3.2⟩
      show (s'.P.length : Int) = s'.L.length + (T.dropped + 1)
      rw [hl, e3.1, ← h2]; omega
    · rw [if_neg h6] at e3 ⊢
      refine ⟨⟨e2.trans h1, e3.1, fun x => (hP x).trans (mem' x), pos', ?_⟩, e3.2⟩
      show (s'.P.length : Int) = s'.L.length + T.dropped
      rw [hl, e3.1, ← h2]; simp; omega
theorem Agree.come {s : RT} {T : Tab} (h : Agree s T) {f : Flag} (hf : f.ok = true) {s' : RT} {r : Bool} (k : s.Takes f s' r) : Agree s' (T.come f) := by
  have := (h.takes k).1
  unfold Tab.come; rw [if_pos hf]; exact this
theorem Agree.runs {most : Int} : ∀ {r : List Flag} {s : RT}, RTR most r s → (∀ f ∈ r, f.ok = true) → Agree s (Tab.runs ⟨most, 0, [], []⟩ r.reverse)
  | [], s, h, _ => by obtain rfl : s = _ := h; exact Agree.start most
  | f :: r, s, ⟨s0, b, h, k⟩, ok => by
    rw [List.reverse_cons, runs_snoc]
    exact (Agree.runs h fun x hx => ok x (.tail _ hx)).come (ok f (.head _)) k
theorem fine_iff (l : List Flag) : fine l = true ↔ ∀ f ∈ l, f.ok = true := by unfold fine; rw [List.all_eq_true]

/-- What the program's Of answers. -/
def OfRR (most : Int) (l Lo : List Flag) (d er : Int) : Prop :=
  if 0 ≤ most ∧ most ≤ 65536 then (d = if fine l = true then (Tab.runs ⟨most, 0, [], []⟩ l).dropped else 0) ∧ er = argErr (fine l) ∧ Lo = (if fine l = true then keptOf ⟨most, 0, [], []⟩ l else []) else Lo = [] ∧ d = 0 ∧ er = 2
theorem of_agree {most : Int} {l Lo : List Flag} {d er m' : Int} {L' : List Flag} {P' : List Pair} {bad : Int} (h : OfRR most l Lo d er) (k : OfRel most l m' L' P' bad) : Lo = L' ∧ d = (P'.length : Int) - L'.length ∧ er = bad := by
  unfold OfRR at h; unfold OfRel at k
  by_cases hm : 0 ≤ most ∧ most ≤ 65536
  · rw [if_pos hm] at h
    by_cases ok : ∀ f ∈ l, f.ok = true
    · rw [if_pos ⟨hm.1, hm.2, ok⟩] at k
      have hf := (fine_iff l).2 ok
      rw [if_pos hf, if_pos hf, hf] at h
      obtain ⟨rfl, rfl, hF⟩ := k
      have ag : Agree ⟨m', L', P'⟩ (Tab.runs ⟨m', 0, [], []⟩ l) := by
        have := Agree.runs (r := l.reverse) hF fun f hf => ok f (List.mem_reverse.1 hf)
        rwa [List.reverse_reverse] at this
      obtain ⟨rfl, rfl, rfl⟩ := h
      have h1 : L' = (Tab.runs ⟨m', 0, [], []⟩ l).l := ag.l_
      rw [runs_l] at h1
      have h2 : (P'.length : Int) = L'.length + (Tab.runs ⟨m', 0, [], []⟩ l).dropped := ag.len
      exact ⟨h1.symm, by omega, rfl⟩
    · have hf : fine l = false := by
        rw [Bool.eq_false_iff]; intro h; exact ok ((fine_iff l).1 h)
      rw [if_neg (fun hh => ok hh.2.2)] at k
      rw [hf] at h
      obtain ⟨rfl, rfl, rfl, rfl⟩ := k
      obtain ⟨rfl, rfl, rfl⟩ := h
      exact ⟨rfl, rfl, rfl⟩
  · rw [if_neg hm] at h
    rw [if_neg (fun hh => hm ⟨hh.1, hh.2.1⟩)] at k
    obtain ⟨rfl, rfl, rfl, rfl⟩ := k
    obtain ⟨rfl, rfl, rfl⟩ := h
    exact ⟨rfl, rfl, rfl⟩

theorem kept_len (l : List Flag) : ∀ T : Tab, (keptOf T l).length ≤ l.length := by
  induction l with
  | nil => exact fun _ => Nat.le_refl _
  | cons f l ih =>
    intro T; unfold keptOf; have := ih (T.come f)
    split
    · simp; omega
    · simp; omega
theorem rtr_len {most : Int} : ∀ {r : List Flag} {s : RT}, RTR most r s → s.P.length ≤ r.length
  | [], s, h => by obtain rfl : s = _ := h; exact Nat.le_refl _
  | f :: r, s, ⟨s0, b, h, k⟩ => by have h1 := rtr_len h; have h2 := k.len.2; simp; omega
theorem of_lens {most : Int} {l Lo : List Flag} {d er m' : Int} {L' : List Flag} {P' : List Pair} {bad : Int} (h : OfRR most l Lo d er) (k : OfRel most l m' L' P' bad) : Lo.length ≤ l.length ∧ P'.length ≤ l.length := by
  refine ⟨?_, ?_⟩
  · unfold OfRR at h; split at h
    · rw [h.2.2]; split
      · exact kept_len l _
      · exact Nat.zero_le _
    · rw [h.1]; exact Nat.zero_le _
  · unfold OfRel at k; split at k
    · have := rtr_len k.2.2; simpa using this
    · rw [k.2.2.2]; exact Nat.zero_le _

theorem e_ofR (most : Int) (A_l : Option Addr) (c_l : Nat) (l : List Flag) (w : World) (hr_l : RowAt w A_l 10 enFlag l) (hc_l : l.length ≤ c_l) (hl : l.length ≤ 40) :
    Calls Try.prog 8 #[Value.int .i64 most, Value.slice A_l l.length c_l] w (fun e w' => ∃ d er : Int, ∃ Lo : List Flag, ∃ (A_o : Option Addr) (c_o : Nat), e = .returned (Value.tuple #[Value.slice A_o Lo.length c_o, Value.int .i64 d, Value.int .i64 er]) ∧ OfRR most l Lo d er ∧ Lo.length ≤ c_o ∧ (roR A_o 10 enFlag Lo).from_ [roR A_l 10 enFlag l] w w' ∧ Fr No w w') := by
  have _hu := hc_l; clear _hu
  by_cases hm : 0 ≤ most ∧ most ≤ 65536
  · refine (OfR_yes w most hm A_l l.length c_l l rfl (by omega) hr_l).mono ?_
    rintro e w' ⟨vo, rfl, hown, hf⟩
    have hown' : w'.ownsRow w.heap.size 43 10 vo (if fine l = true then keptOf ⟨most, 0, [], []⟩ l else []).length (flat enFlag (if fine l = true then keptOf ⟨most, 0, [], []⟩ l else [])) := hown
    obtain ⟨A, c, rfl, h1, -, h3⟩ := owns_form hown'
    refine ⟨_, _, _, A, c, rfl, ?_, h1, ⟨rowR_at (E := 43) (owns_base hown') elt_Flag.len, fun b hb => ?_⟩, hf⟩
    · unfold OfRR; rw [if_pos hm]; exact ⟨rfl, rfl, rfl⟩
    · have hb' := rowR_fp (E := 43) (n := (if fine l = true then keptOf ⟨most, 0, [], []⟩ l else []).length) (c := c) b hb
      cases A with
      | none => simp [rowR, Value.ownBlock] at hb'
      | some a =>
        obtain ⟨-, -, h4, h5⟩ := h3 a rfl
        obtain rfl : b = a.block := by simpa [rowR, Value.ownBlock] using hb'
        exact ⟨h5, .inr h4⟩
  · refine (OfR_no w most hm A_l l.length c_l).mono ?_
    rintro e w' ⟨rfl, hf⟩
    refine ⟨0, 2, [], none, 0, rfl, ?_, Nat.le_refl _, from_nil, hf⟩
    unfold OfRR; rw [if_neg hm]; exact ⟨rfl, rfl, rfl⟩
end Go.Proofs.Ytgkhaoogfpnbbaa.L
