/- Layer 7: pairs in order, how often each came; nothing of the program. -/
import Derived.Test.YtfkbjfbbigbacaaGreatDoorT19
import Derived.Test.YtfkbjfbbigbacaaGreatDoorSiteD
namespace Go.Proofs.YtfkbjfbbigbacaaGreatDoor.L
open Go.RowKit Go.MapKept Go.Maps

def ltP (x y : Pair) : Prop := (x.a.f < y.a.f ∨ (x.a.f = y.a.f ∧ x.a.pc < y.a.pc)) ∨ ((x.a.f = y.a.f ∧ x.a.pc = y.a.pc) ∧ (x.b.f < y.b.f ∨ (x.b.f = y.b.f ∧ x.b.pc < y.b.pc)))
instance (x y : Pair) : Decidable (ltP x y) := by unfold ltP; infer_instance
theorem ltP_irr (x : Pair) : ¬ ltP x x := by unfold ltP; omega
theorem ltP_trans {x y z : Pair} (h : ltP x y) (k : ltP y z) : ltP x z := by unfold ltP at *; omega
theorem ltP_tot {x y : Pair} (h : x ≠ y) : ltP x y ∨ ltP y x := by
  obtain ⟨⟨a, b⟩, ⟨c, d⟩⟩ := x
  obtain ⟨⟨e, f⟩, ⟨g, i⟩⟩ := y
  have h : ¬ (a = e ∧ b = f ∧ c = g ∧ d = i) := fun q => h (by rw [q.1, q.2.1, q.2.2.1, q.2.2.2])
  unfold ltP; simp only; omega
theorem cmpI_ng {x y : Int} : cmpI x y < 0 ↔ x < y := by unfold cmpI; repeat' split <;> omega
theorem cmpI_zr {x y : Int} : cmpI x y = 0 ↔ x = y := by unfold cmpI; repeat' split <;> omega
theorem orI_ng {a b : Int} : orI a b < 0 ↔ a < 0 ∨ (a = 0 ∧ b < 0) := by unfold orI; split <;> omega
theorem cmp_ng {a b : Site} : a.cmp b < 0 ↔ a.f < b.f ∨ (a.f = b.f ∧ a.pc < b.pc) := by unfold Site.cmp; rw [orI_ng, cmpI_ng, cmpI_zr, cmpI_ng]
theorem site_eqi {a b : Site} : a = b ↔ a.f = b.f ∧ a.pc = b.pc := by obtain ⟨x, y⟩ := a; obtain ⟨z, w⟩ := b; simp
theorem ltP_cmp {x y : Pair} : ltP x y ↔ x.a.cmp y.a < 0 ∨ (x.a = y.a ∧ x.b.cmp y.b < 0) := by rw [cmp_ng, cmp_ng, site_eqi]; rfl
theorem srtP_eq : ∀ {a b : List Pair}, a.Pairwise ltP → b.Pairwise ltP → (∀ i, i ∈ a ↔ i ∈ b) → a = b
  | [], [], _, _, _ => rfl
  | [], y :: b, _, _, h => absurd ((h y).2 (.head _)) (by simp)
  | x :: a, [], _, _, h => absurd ((h x).1 (.head _)) (by simp)
  | x :: a, y :: b, ha, hb, h => by
    have ha' := List.pairwise_cons.1 ha
    have hb' := List.pairwise_cons.1 hb
    have e : x = y := by
      rcases List.mem_cons.1 ((h x).1 (.head _)) with q | q
      · exact q
      · rcases List.mem_cons.1 ((h y).2 (.head _)) with r | r
        · exact r.symm
        · exact absurd (ltP_trans (ha'.1 y r) (hb'.1 x q)) (ltP_irr x)
    subst e
    rw [srtP_eq ha'.2 hb'.2 fun i => ⟨fun q => ?_, fun q => ?_⟩]
    · rcases List.mem_cons.1 ((h i).1 (.tail _ q)) with r | r
      · exact absurd (ha'.1 i q) (by rw [r]; exact ltP_irr x)
      · exact r
    · rcases List.mem_cons.1 ((h i).2 (.tail _ q)) with r | r
      · exact absurd (hb'.1 i q) (by rw [r]; exact ltP_irr x)
      · exact r
/-- A pair laid in its place. -/
def addP (l : List Pair) (p : Pair) : List Pair := if p ∈ l then l else l.takeWhile (fun x => decide (ltP x p)) ++ p :: l.dropWhile (fun x => decide (ltP x p))
theorem addP_mem {l : List Pair} {p x : Pair} : x ∈ addP l p ↔ x = p ∨ x ∈ l := by
  unfold addP
  split
  · rename_i h; exact ⟨.inr, fun q => q.elim (fun e => e ▸ h) id⟩
  · conv => rhs; rw [← List.takeWhile_append_dropWhile (p := fun x => decide (ltP x p)) (l := l)]
    simp only [List.mem_append, List.mem_cons]
    constructor
    · rintro (h | h | h)
      · exact .inr (.inl h)
      · exact .inl h
      · exact .inr (.inr h)
    · rintro (h | h | h)
      · exact .inr (.inl h)
      · exact .inl h
      · exact .inr (.inr h)
theorem addP_len (l : List Pair) (p : Pair) : (addP l p).length ≤ l.length + 1 := by
  unfold addP
  split
  · omega
  · have := congrArg List.length (List.takeWhile_append_dropWhile (p := fun x => decide (ltP x p)) (l := l))
    simp only [List.length_append, List.length_cons] at this ⊢; omega
theorem drop_gt {p : Pair} : ∀ {l : List Pair}, l.Pairwise ltP → p ∉ l → ∀ x ∈ l.dropWhile (fun x => decide (ltP x p)), ltP p x
  | [], _, _, x, hx => by cases hx
  | y :: l, hs, hn, x, hx => by
    have hs' := List.pairwise_cons.1 hs
    rw [List.dropWhile_cons] at hx
    split at hx
    · exact drop_gt hs'.2 (fun q => hn (.tail _ q)) x hx
    · rename_i q
      have hyp : ltP p y := (ltP_tot (fun e => hn (by rw [e]; exact .head _))).resolve_right (fun r => q (decide_eq_true r))
      rcases List.mem_cons.1 hx with rfl | hx
      · exact hyp
      · exact ltP_trans hyp (hs'.1 x hx)
theorem take_lt {p x : Pair} : ∀ {l : List Pair}, x ∈ l.takeWhile (fun x => decide (ltP x p)) → ltP x p
  | [], h => by cases h
  | y :: l, h => by
    rw [List.takeWhile_cons] at h
    split at h
    · rename_i q
      rcases List.mem_cons.1 h with rfl | h
      · exact of_decide_eq_true q
      · exact take_lt h
    · cases h
theorem addP_srt {l : List Pair} {p : Pair} (h : l.Pairwise ltP) : (addP l p).Pairwise ltP := by
  unfold addP
  split
  · exact h
  · rename_i hn
    have h2 := h
    rw [← List.takeWhile_append_dropWhile (p := fun x => decide (ltP x p)) (l := l), List.pairwise_append] at h2
    rw [List.pairwise_append, List.pairwise_cons]
    refine ⟨h2.1, ⟨fun x hx => drop_gt h hn x hx, h2.2.1⟩, fun x hx y hy => ?_⟩
    rcases List.mem_cons.1 hy with rfl | hy
    · exact take_lt hx
    · exact ltP_trans (take_lt hx) (drop_gt h hn y hy)
theorem addP_at {p : Pair} : ∀ {l : List Pair} {k : Nat}, p ∉ l → k ≤ l.length → (∀ x ∈ l.take k, ltP x p) → (∀ y, l[k]? = some y → ¬ ltP y p) → addP l p = l.take k ++ [p] ++ l.drop k := by
  intro l k hn hk h1 h2
  have key : ∀ {l : List Pair} {k : Nat}, k ≤ l.length → (∀ x ∈ l.take k, ltP x p) → (∀ y, l[k]? = some y → ¬ ltP y p) → l.takeWhile (fun x => decide (ltP x p)) = l.take k ∧ l.dropWhile (fun x => decide (ltP x p)) = l.drop k := by
    intro l
    induction l with
    | nil => intro k _ _ _; simp
    | cons y l ih =>
      intro k hk h1 h2
      cases k with
      | zero =>
        have := h2 y rfl
        simp [this]
      | succ k =>
        have hy := h1 y (by rw [List.take_succ_cons]; exact .head _)
        obtain ⟨e1, e2⟩ := ih (k := k) (by simpa using hk) (fun x hx => h1 x (by rw [List.take_succ_cons]; exact .tail _ hx)) (fun z hz => h2 z (by simpa using hz))
        rw [List.takeWhile_cons, List.dropWhile_cons, decide_eq_true hy]
        simp only [if_true, e1, e2, List.take_succ_cons, List.drop_succ_cons, and_self]
  obtain ⟨e1, e2⟩ := key hk h1 h2
  unfold addP
  rw [if_neg hn, e1, e2]; simp
def allP (l : List Pair) : List Pair := l.foldl addP []
theorem allP_snoc (l : List Pair) (p : Pair) : allP (l ++ [p]) = addP (allP l) p := by simp [allP]
theorem allP_ind {P : List Pair → List Pair → Prop} (h0 : P [] []) (h1 : ∀ l p, P l (allP l) → P (l ++ [p]) (addP (allP l) p)) (l : List Pair) : P l (allP l) := by
  have key : ∀ n, ∀ l : List Pair, l.length = n → P l (allP l) := by
    intro n
    induction n with
    | zero => intro l hl; rw [List.eq_nil_of_length_eq_zero hl]; exact h0
    | succ n ih =>
      intro l hl
      have hne : l ≠ [] := by intro e; rw [e] at hl; cases hl
      rw [← List.dropLast_concat_getLast hne, allP_snoc]
      exact h1 _ _ (ih _ (by rw [List.length_dropLast]; omega))
  exact key _ l rfl
theorem allP_srt (l : List Pair) : (allP l).Pairwise ltP := allP_ind (P := fun _ m => m.Pairwise ltP) List.Pairwise.nil (fun _ _ h => addP_srt h) l
theorem allP_mem (l : List Pair) : ∀ x, x ∈ allP l ↔ x ∈ l := allP_ind (P := fun l m => ∀ x, x ∈ m ↔ x ∈ l) (fun _ => Iff.rfl) (fun l p h x => by rw [addP_mem, h, List.mem_append, List.mem_singleton]; exact or_comm) l
theorem allP_len (l : List Pair) : (allP l).length ≤ l.length := allP_ind (P := fun l m => m.length ≤ l.length) (Nat.le_refl _) (fun l p h => by have := addP_len (allP l) p; rw [List.length_append, List.length_singleton]; omega) l
/-- How often each came. -/
def cntM (l : List Pair) : List (Pair × Int) := l.foldl (fun m x => put m x (came m x + 1)) []
theorem cntP_snoc {l : List Pair} {k : Nat} {y : Pair} (h : l[k]? = some y) : cntM (l.take (k + 1)) = put (cntM (l.take k)) y (came (cntM (l.take k)) y + 1) := by rw [tk_snoc h]; simp [cntM]
theorem cntP_inv (l : List Pair) : (∀ x, look (cntM l) x ≠ none ↔ x ∈ l) ∧ ∀ x, 0 ≤ came (cntM l) x ∧ came (cntM l) x ≤ l.length := by
  have key : ∀ n, n ≤ l.length → (∀ x, look (cntM (l.take n)) x ≠ none ↔ x ∈ l.take n) ∧ ∀ x, 0 ≤ came (cntM (l.take n)) x ∧ came (cntM (l.take n)) x ≤ n := by
    intro n
    induction n with
    | zero => intro _; exact ⟨fun x => by simp [cntM, look], fun x => by simp [cntM, came, look]⟩
    | succ n ih =>
      intro hn
      obtain ⟨i1, i2⟩ := ih (by omega)
      obtain ⟨y, hy⟩ : ∃ y, l[n]? = some y := ⟨_, List.getElem?_eq_getElem (by omega)⟩
      rw [cntP_snoc hy, tk_snoc hy]
      refine ⟨fun x => ?_, fun x => ?_⟩
      · rw [look_put, List.mem_append, List.mem_singleton, ← i1 x]
        by_cases q : y = x
        · rw [if_pos q]; simp [q]
        · rw [if_neg q]; exact ⟨.inl, fun r => r.resolve_right (fun e => q e.symm)⟩
      · have hx := i2 x
        have hyy := i2 y
        unfold came at hx hyy ⊢
        rw [look_put]
        by_cases q : y = x
        · rw [if_pos q]; show 0 ≤ _ + 1 ∧ _ + 1 ≤ _; omega
        · rw [if_neg q]; omega
  have := key l.length (Nat.le_refl _)
  rwa [List.take_length] at this
theorem cntP_key {l : List Pair} {x : Pair} : x ∈ keys (cntM l) ↔ x ∈ l := by
  rw [← (cntP_inv l).1 x]
  constructor
  · intro h e; exact look_none.1 e h
  · intro h; exact Classical.byContradiction fun q => h (look_none.2 q)
theorem cntP_len {l : List Pair} (hn : (keys (cntM l)).Nodup) : (cntM l).length = (allP l).length := by
  have h2 : (allP l).Nodup := (allP_srt l).imp (fun {a b} (h : ltP a b) (e : a = b) => ltP_irr a (by rw [← e] at h; exact h))
  have := ((List.perm_ext_iff_of_nodup hn h2).2 fun x => cntP_key.trans (allP_mem l x).symm).length_eq
  simpa [keys] using this
theorem pairs_eq {l ks : List Pair} (hp : ks.Perm (keys (cntM l))) (hs : ks.Pairwise fun x y => ¬ ltP y x) (hn : (keys (cntM l)).Nodup) : ks = allP l := by
  refine srtP_eq ?_ (allP_srt l) fun x => by rw [hp.mem_iff, cntP_key, allP_mem]
  have hd : ks.Nodup := hp.nodup_iff.2 hn
  unfold List.Nodup at hd
  exact (hs.and hd).imp fun ⟨h1, h2⟩ => (ltP_tot h2).resolve_right h1
end Go.Proofs.YtfkbjfbbigbacaaGreatDoor.L
