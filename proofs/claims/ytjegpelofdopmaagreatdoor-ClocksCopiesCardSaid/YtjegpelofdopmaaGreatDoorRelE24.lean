/- Layer 24: goroutines as an iterator tells them and as the document lists them; nothing of the program. -/
import Derived.Test.YtjegpelofdopmaaGreatDoorT23
namespace Go.Proofs.YtjegpelofdopmaaGreatDoor.L
open Go.RowKit Go.MapKept Go.Maps

theorem srt_eq : ∀ {a b : List Int}, a.Pairwise (· < ·) → b.Pairwise (· < ·) → (∀ i, i ∈ a ↔ i ∈ b) → a = b
  | [], [], _, _, _ => rfl
  | [], y :: b, _, _, h => absurd ((h y).2 (.head _)) (by simp)
  | x :: a, [], _, _, h => absurd ((h x).1 (.head _)) (by simp)
  | x :: a, y :: b, ha, hb, h => by
    have ha' := List.pairwise_cons.1 ha
    have hb' := List.pairwise_cons.1 hb
    have e : x = y := by
      rcases List.mem_cons.1 ((h x).1 (.head _)) with q | q
      · exact q
      · rcases List.mem_cons.1 ((h y).2 (.head _)) with r | r
        · exact r.symm
        · have := ha'.1 y r; have := hb'.1 x q; omega
    subst e
    rw [srt_eq ha'.2 hb'.2 fun i => ⟨fun q => ?_, fun q => ?_⟩]
    · rcases List.mem_cons.1 ((h i).1 (.tail _ q)) with r | r
      · have := ha'.1 i q; omega
      · exact r
    · rcases List.mem_cons.1 ((h i).2 (.tail _ q)) with r | r
      · have := hb'.1 i q; omega
      · exact r
theorem lookO_mem {A : List One4} (hs : A.Pairwise (fun a b => a.w < b.w)) {y : One4} (hy : y ∈ A) : lookO A y.w = some y.cl := by
  induction A with
  | nil => cases hy
  | cons x A ih =>
    have hs' := List.pairwise_cons.1 hs
    unfold lookO
    rcases List.mem_cons.1 hy with rfl | hy
    · rw [if_pos rfl]
    · rw [if_neg (by have := hs'.1 y hy; omega)]; exact ih hs'.2 hy
theorem lookO_has {A : List One4} {i : Int} (h : lookO A i ≠ none) : ∃ y ∈ A, y.w = i := by
  induction A with
  | nil => exact absurd rfl h
  | cons x A ih =>
    unfold lookO at h
    split at h
    · rename_i q; exact ⟨x, .head _, q⟩
    · obtain ⟨y, hy, e⟩ := ih h; exact ⟨y, .tail _ hy, e⟩
theorem DOk.mem {en N s L Q} (h : DOk en N s L Q) (i : Int) : i ∈ L.map One4.w ↔ s.g i ≠ none := by
  rw [← h.g i, List.mem_map]
  constructor
  · rintro ⟨y, hy, rfl⟩ e; rw [lookO_mem h.srt hy] at e; cases e
  · intro q; obtain ⟨y, hy, e⟩ := lookO_has q; exact ⟨y, hy, e⟩
theorem beg_keys {en N s L Q xs} (h : DOk en N s L Q) (hb : BegOf s xs) : xs.map One5.gx = L.map One4.w := by
  refine srt_eq (by rw [List.pairwise_map]; exact hb.srt) (by rw [List.pairwise_map]; exact h.srt) fun i => ?_
  rw [h.mem, ← hb.mem, List.mem_map]
theorem beg_len {en N s L Q xs} (h : DOk en N s L Q) (hb : BegOf s xs) : xs.length = L.length := by
  have := congrArg List.length (beg_keys h hb); simpa using this
theorem beg_comes {en N s L Q} (h : DOk en N s L Q) {pre : List One5} {x : One5} (hc : Comes (BegOf s) pre x) : pre.length < L.length ∧ (0 ≤ x.gx ∧ x.gx ≤ 65535) ∧ ∀ y, L[pre.length]? = some y → y.w = x.gx ∧ x.ax = packV x.gx (getC y.cl x.gx) := by
  obtain ⟨xs, hb, t, ht⟩ := hc
  have hx : xs[pre.length]? = some x := by rw [← ht, List.append_assoc, List.getElem?_append_right (Nat.le_refl _)]; simp
  have hl : pre.length < L.length := by rw [← beg_len h hb]; exact (List.getElem?_eq_some_iff.1 hx).1
  refine ⟨hl, h.rng _ ((hb.mem _).1 ⟨x, List.mem_of_getElem? hx, rfl⟩), fun y hy => ?_⟩
  have e : y.w = x.gx := by
    have h1 : (xs.map One5.gx)[pre.length]? = some x.gx := by rw [List.getElem?_map, hx]; rfl
    rw [beg_keys h hb, List.getElem?_map, hy] at h1
    simpa using h1
  refine ⟨e, ?_⟩
  rw [hb.ax x (List.mem_of_getElem? hx)]
  have q : s.g x.gx = some y.cl := by rw [← e, ← h.g]; exact lookO_mem h.srt (List.mem_of_getElem? hy)
  unfold _root_.Go.Proofs.YtjegpelofdopmaaGreatDoor.L.gv
  rw [q]; rfl
theorem DOk.cG {en N s L Q} (h : DOk en N s L Q) (hN : N ≤ 4095) : ∀ y ∈ L, ∀ g, 0 ≤ getC y.cl g ∧ getC y.cl g ≤ 281474976710655 := fun y hy g => by
  have := getC_bd (h.bL y hy).1.2 (by omega) g; omega
end Go.Proofs.YtjegpelofdopmaaGreatDoor.L
