/- Contracts of package report: the closure of Of. -/
import Derived.Test.YtgkhaoogfpnbbaaReportC
import Derived.Maps.AppendAt
namespace Go.Proofs.Ytgkhaoogfpnbbaa.L
open Go.RowKit

/-- A table to which any flag comes. -/
def Tab.come (T : Tab) (f : Flag) : Tab := if f.ok = true then (T.take f).1 else T
def Tab.kept (T : Tab) (f : Flag) : Bool := f.ok && (T.take f).2

/-- The two captured variables of Of, and the table. -/
structure OX (w : World) (base tb eb t p b : Nat) (v : Value) (T : Tab) (g : Bool) : Prop where
  tcell : w.heap[tb]? = some (.cells #[.pointer (some ⟨t, 0, none⟩)] 44 (0, 0))
  ecell : w.heap[eb]? = some (.cells #[.int .i64 (argErr g)] 24 (0, 0))
  tx : TX w base t p b v T

/-- Bounds on a table to which n flags came. -/
structure Tab.Fine (T : Tab) (n : Nat) : Prop where
  came0 : ∀ x, 0 ≤ came T.m x
  came : ∀ x, came T.m x ≤ n
  dropped0 : 0 ≤ T.dropped
  dropped : T.dropped ≤ n
  len : T.l.length ≤ n

theorem came_put (m : List (Pair × Int)) (x y : Pair) (v : Int) : came (put m x v) y = if x = y then v else came m y := by
  unfold L.came
  rw [look_put]
  split <;> rfl
theorem Tab.Fine.take {T : Tab} {n : Nat} (h : T.Fine n) (f : Flag) : (T.take f).1.Fine (n + 1) := by
  have hc := h.came (Pair.of f.e.s f.l.s)
  have hc0 := h.came0 (Pair.of f.e.s f.l.s)
  have k1 := h.dropped
  have k2 := h.dropped0
  have k3 := h.len
  have a1 : ∀ y, 0 ≤ L.came (put T.m (Pair.of f.e.s f.l.s) (L.came T.m (Pair.of f.e.s f.l.s) + 1)) y := fun y => by
    rw [came_put]; split
    · omega
    · exact h.came0 y
  have a2 : ∀ y, L.came (put T.m (Pair.of f.e.s f.l.s) (L.came T.m (Pair.of f.e.s f.l.s) + 1)) y ≤ (n + 1 : Nat) := fun y => by
    rw [came_put]; split
    · omega
    · have := h.came y; omega
  unfold Tab.take
  split
  · split
    · exact ⟨a1, a2, by simp only; omega, by simp only; omega, by simp only; omega⟩
    · exact ⟨a1, a2, by simp only; omega, by simp only; omega, by simp only [List.length_append, List.length_cons, List.length_nil]; omega⟩
  · exact ⟨a1, a2, by simp only; omega, by simp only; omega, by simp only; omega⟩
theorem Tab.Fine.up {T : Tab} {n : Nat} (h : T.Fine n) : T.Fine (n + 1) :=
  ⟨h.came0, fun x => by have := h.came x; omega, h.dropped0, by have := h.dropped; omega, by have := h.len; omega⟩
theorem Tab.Fine.come {T : Tab} {n : Nat} (h : T.Fine n) (f : Flag) : (T.come f).Fine (n + 1) := by
  unfold Tab.come
  split
  · exact h.take f
  · exact h.up

section
variable {w : World} {base tb eb t p b : Nat} {v : Value} {T : Tab} {g : Bool}
theorem OX.ne (h : OX w base tb eb t p b v T g) : tb ≠ eb ∧ tb ≠ t ∧ tb ≠ p ∧ tb ≠ b ∧ eb ≠ t ∧ eb ≠ p ∧ eb ≠ b ∧ ∀ k, v.ownBlock = some k → k ≠ tb ∧ k ≠ eb := by
  have h1 := h.tcell
  have h2 := h.ecell
  have h3 := h.tx.cell
  have h4 := h.tx.px.cell
  obtain ⟨es, clock, h5, _⟩ := h.tx.px.holds
  refine ⟨fun e => ?_, fun e => ?_, fun e => ?_, fun e => ?_, fun e => ?_, fun e => ?_, fun e => ?_, fun k hk => ⟨fun e => ?_, fun e => ?_⟩⟩
  · rw [e, h2] at h1; cases h1
  · rw [e, h3] at h1; cases h1
  · rw [e, h4] at h1; cases h1
  · rw [e, h5] at h1; cases h1
  · rw [e, h3] at h2; cases h2
  · rw [e, h4] at h2; cases h2
  · rw [e, h5] at h2; cases h2
  · obtain ⟨-, cur, h6⟩ := own_block h.tx.own hk
    rw [← e, h6] at h1; cases h1
  · obtain ⟨-, cur, h6⟩ := own_block h.tx.own hk
    rw [← e, h6] at h2; cases h2
theorem OX.fr {S : Nat → Prop} {w' : World} (h : OX w base tb eb t p b v T g) (f : Fr S w w') (h1 : ¬ S t) (h2 : ¬ S p) (h3 : ¬ S b) (h4 : ∀ k, v.ownBlock = some k → ¬ S k) (h5 : ¬ S tb) (h6 : ¬ S eb) : OX w' base tb eb t p b v T g :=
  ⟨f.at h.tcell h5, f.at h.ecell h6, h.tx.fr f h1 h2 h3 h4⟩
theorem OX.no {w' : World} (h : OX w base tb eb t p b v T g) (f : Fr No w w') : OX w' base tb eb t p b v T g := h.fr f (fun s => s) (fun s => s) (fun s => s) (fun _ _ s => s) (fun s => s) (fun s => s)
end

/-- How the closure ends. -/
def CloEnd (w : World) (base tb eb t p b : Nat) (v : Value) (T : Tab) (g : Bool) (f : Flag) (e : Ending) (w' : World) : Prop :=
  ∃ v', e = .returned (.bool (T.kept f)) ∧ OX w' base tb eb t p b v' (T.come f) (g && f.ok) ∧ (∀ k, v'.ownBlock = some k → v.ownBlock = some k ∨ w.heap.size ≤ k) ∧ Fr (fun k => k = t ∨ k = b ∨ k = eb) w w'

set_option maxHeartbeats 1000000 in
theorem clo_no (w : World) (base tb eb t p b : Nat) (v : Value) (T : Tab) (g : Bool) (h : OX w base tb eb t p b v T g) (f : Flag) (hf : f.ok = false) :
    Calls Try.prog 25 #[f.v, .pointer (some ⟨tb, 0, none⟩), .pointer (some ⟨eb, 0, none⟩)] w (CloEnd w base tb eb t p b v T g f) := by
  have HT := Lib.hid (fun w v h => Take_no w base t p b v T h f hf)
  have HE : Hid (∀ e w', (∃ v', e = .returned (.bool false) ∧ OX w' base tb eb t p b v' T false ∧ (∀ k, v'.ownBlock = some k → v.ownBlock = some k ∨ w.heap.size ≤ k) ∧ Fr (fun k => k = t ∨ k = b ∨ k = eb) w w') → CloEnd w base tb eb t p b v T g f e w') := Lib.hid (by
    rintro e w' ⟨v', h1, h2, h3, h4⟩
    refine ⟨v', by unfold Tab.kept; rw [hf]; exact h1, ?_, h3, h4⟩
    unfold Tab.come
    rw [hf, if_neg (by simp), Bool.and_false]
    exact h2)
  generalize CloEnd w base tb eb t p b v T g f = R at HE ⊢
  have HX := Lib.hid h
  clear h hf
  unfold Flag.v Flag.cells at *
  go_enter Try.func25, Try.ntmps25
  have c0 := fun o => (blk_cell (blk_alloc HX.out.tcell o) 0).trans rfl
  go_wp2_with fail
  refine (HT.out _ v (HX.out.tx.no ((Fr.refl No w).alloc _))).mono ?_
  rintro e w1 ⟨rfl, hf⟩
  have hF := ((Fr.refl No w).alloc _).to hf (fun _ _ s => s)
  have hX1 := HX.out.no hF
  obtain ⟨k1, f1, l1⟩ := blk_all hX1.ecell
  have HX1 := Lib.hid hX1
  have HF1 := Lib.hid hF
  clear hF hX1 hf c0
  cases g
  · have e2 : argErr false = 2 := rfl
    rw [e2] at k1
    go_wp2_with fail
    have hs : Fr (· = eb) w1 (w1.setCell ⟨eb, 0, none⟩ (.int .i64 2)) := Fr.setCell (S := (· = eb)) (p := ⟨eb, 0, none⟩) (Fr.refl _ w1) (.inl rfl) _
    obtain ⟨n1, n2, n3, n4, n5, n6, n7, n8⟩ := HX1.out.ne
    exact HE.out _ _ ⟨v, rfl, ⟨hs.at HX1.out.tcell n1, blk_set HX1.out.ecell 0 _, HX1.out.tx.fr hs (fun e => n5 e.symm) (fun e => n6 e.symm) (fun e => n7 e.symm) (fun k hk => (n8 k hk).2)⟩, fun k hk => .inl hk, (HF1.out.mono (fun _ _ s => s.elim)).to hs (fun _ _ s => .inr (.inr s))⟩
  · have e2 : argErr true = 0 := rfl
    rw [e2] at k1
    go_wp2_with fail
    have hs : Fr (· = eb) w1 (w1.setCell ⟨eb, 0, none⟩ (.int .i64 2)) := Fr.setCell (S := (· = eb)) (p := ⟨eb, 0, none⟩) (Fr.refl _ w1) (.inl rfl) _
    obtain ⟨n1, n2, n3, n4, n5, n6, n7, n8⟩ := HX1.out.ne
    exact HE.out _ _ ⟨v, rfl, ⟨hs.at HX1.out.tcell n1, blk_set HX1.out.ecell 0 _, HX1.out.tx.fr hs (fun e => n5 e.symm) (fun e => n6 e.symm) (fun e => n7 e.symm) (fun k hk => (n8 k hk).2)⟩, fun k hk => .inl hk, (HF1.out.mono (fun _ _ s => s.elim)).to hs (fun _ _ s => .inr (.inr s))⟩

set_option maxHeartbeats 1000000 in
theorem clo_yes (w : World) (base tb eb t p b : Nat) (v : Value) (T : Tab) (g : Bool) (h : OX w base tb eb t p b v T g) (f : Flag) (hf : f.ok = true) (n : Nat) (hn : T.Fine n) (hn1 : n < 1000) (hb : base ≤ w.heap.size) :
    Calls Try.prog 25 #[f.v, .pointer (some ⟨tb, 0, none⟩), .pointer (some ⟨eb, 0, none⟩)] w (CloEnd w base tb eb t p b v T g f) := by
  have HT : Hid (∀ w, base ≤ w.heap.size → TX w base t p b v T → Calls Try.prog 14 #[.pointer (some ⟨t, 0, none⟩), f.v] w (TakeEnd w base t p b v (T.take f))) := Lib.hid (fun w hb h => by
    have h1 := hn.came (Pair.of f.e.s f.l.s)
    have h2 := hn.dropped
    have h3 := hn.len
    exact Take_yes w base t p b v T h f hf hb (hn.came0 _) (by omega) hn.dropped0 (by omega) (by omega))
  have HE : Hid (∀ e w', (∃ v', e = .returned (.bool (T.take f).2) ∧ OX w' base tb eb t p b v' (T.take f).1 g ∧ (∀ k, v'.ownBlock = some k → v.ownBlock = some k ∨ w.heap.size ≤ k) ∧ Fr (fun k => k = t ∨ k = b ∨ k = eb) w w') → CloEnd w base tb eb t p b v T g f e w') := Lib.hid (by
    rintro e w' ⟨v', h1, h2, h3, h4⟩
    refine ⟨v', by unfold Tab.kept; rw [hf]; exact h1, ?_, h3, h4⟩
    unfold Tab.come
    rw [hf, if_pos rfl, Bool.and_true]
    exact h2)
  generalize CloEnd w base tb eb t p b v T g f = R at HE ⊢
  obtain ⟨T', hT'⟩ : ∃ T', T' = T.take f := ⟨_, rfl⟩
  rw [← hT'] at HT HE
  have HX := Lib.hid h
  have HB := Lib.hid hb
  clear h hf hb hT' hn
  obtain ⟨T1, r⟩ := T'
  unfold TakeEnd at HT
  simp only at HT HE
  unfold Flag.v Flag.cells at *
  go_enter Try.func25, Try.ntmps25
  have c0 := fun o => (blk_cell (blk_alloc HX.out.tcell o) 0).trans rfl
  go_wp2_with fail
  refine (HT.out _ (by have := HB.out; simp; omega) (HX.out.tx.no ((Fr.refl No w).alloc _))).mono ?_
  rintro e w1 ⟨v1, rfl, hx, hv, hf⟩
  obtain ⟨n1, n2, n3, n4, n5, n6, n7, n8⟩ := HX.out.ne
  have hX1 : OX w1 base tb eb t p b v1 T1 g := ⟨hf.at (blk_alloc HX.out.tcell _) (fun s => s.elim n2 n4), hf.at (blk_alloc HX.out.ecell _) (fun s => s.elim n5 n7), hx⟩
  obtain ⟨k1, f1, l1⟩ := blk_all hX1.ecell
  have HX1 := Lib.hid hX1
  have HF1 := Lib.hid (Fr.trans (T := fun k => k = t ∨ k = b ∨ k = eb) ((Fr.refl No w).alloc _) hf (fun _ _ s => s.elim) (fun _ _ s => s.elim .inl (fun s => .inr (.inl s))))
  have HV : Hid (∀ k, v1.ownBlock = some k → v.ownBlock = some k ∨ w.heap.size ≤ k) := Lib.hid (fun k hk => (hv k hk).imp_right (fun s => by simp at s; omega))
  clear hx hv hf hX1 c0 n1 n2 n3 n4 n5 n6 n7 n8
  cases g
  · have e2 : argErr false = 2 := rfl
    rw [e2] at k1
    go_wp2_with fail
    have hs : Fr (· = eb) w1 (w1.setCell ⟨eb, 0, none⟩ (.int .i64 2)) := Fr.setCell (S := (· = eb)) (p := ⟨eb, 0, none⟩) (Fr.refl _ w1) (.inl rfl) _
    obtain ⟨n1, n2, n3, n4, n5, n6, n7, n8⟩ := HX1.out.ne
    exact HE.out _ _ ⟨v1, rfl, ⟨hs.at HX1.out.tcell n1, blk_set HX1.out.ecell 0 _, HX1.out.tx.fr hs (fun e => n5 e.symm) (fun e => n6 e.symm) (fun e => n7 e.symm) (fun k hk => (n8 k hk).2)⟩, HV.out, HF1.out.to hs (fun _ _ s => .inr (.inr s))⟩
  · have e2 : argErr true = 0 := rfl
    rw [e2] at k1
    go_wp2_with fail
    have hs : Fr (· = eb) w1 (w1.setCell ⟨eb, 0, none⟩ (.int .i64 0)) := Fr.setCell (S := (· = eb)) (p := ⟨eb, 0, none⟩) (Fr.refl _ w1) (.inl rfl) _
    obtain ⟨n1, n2, n3, n4, n5, n6, n7, n8⟩ := HX1.out.ne
    exact HE.out _ _ ⟨v1, rfl, ⟨hs.at HX1.out.tcell n1, blk_set HX1.out.ecell 0 _, HX1.out.tx.fr hs (fun e => n5 e.symm) (fun e => n6 e.symm) (fun e => n7 e.symm) (fun k hk => (n8 k hk).2)⟩, HV.out, HF1.out.to hs (fun _ _ s => .inr (.inr s))⟩

theorem clo_any (w : World) (base tb eb t p b : Nat) (v : Value) (T : Tab) (g : Bool) (h : OX w base tb eb t p b v T g) (f : Flag) (n : Nat) (hn : T.Fine n) (hn1 : n < 1000) (hb : base ≤ w.heap.size) :
    Calls Try.prog 25 #[f.v, .pointer (some ⟨tb, 0, none⟩), .pointer (some ⟨eb, 0, none⟩)] w (CloEnd w base tb eb t p b v T g f) := by
  cases hf : f.ok
  · exact clo_no w base tb eb t p b v T g h f hf
  · exact clo_yes w base tb eb t p b v T g h f hf n hn hn1 hb
end Go.Proofs.Ytgkhaoogfpnbbaa.L
