/- Layer 13: the program's mutexes and the document's, side by side. -/
import Derived.Test.YtgeikokmhkfkgaaT8
namespace Go.Proofs.Ytgeikokmhkfkgaa.L
open Go.RowKit

/-- They say the same. -/
structure Rel13 (L : List Int) (h : List (Int × Int)) (many : Int) : Prop where
  len : (L.length : Int) = many
  most : many ≤ 64
  at_ : ∀ i : Int, 0 ≤ i → i < many → L[i.toNat]? = some (match look h i with | none => 0 | some v => v + 1)
  val : ∀ x ∈ h, 0 ≤ x.2 ∧ x.2 ≤ 65535
  key : ∀ x ∈ h, 0 ≤ x.1 ∧ x.1 < many
  nodup : (h.map (·.1)).Nodup
theorem put_new {h : List (Int × Int)} {i v : Int} (e : look h i = none) : put h i v = h ++ [(i, v)] := by
  induction h with
  | nil => rfl
  | cons x r ih =>
    obtain ⟨a, u⟩ := x
    simp only [look] at e
    split at e
    · cases e
    · rename_i ha
      simp only [put]; rw [if_neg ha, ih e]; rfl
theorem Rel13.start {many : Int} (h0 : 0 ≤ many) (h1 : many ≤ 64) : Rel13 (List.replicate many.toNat 0) [] many :=
  ⟨by simp; omega, h1, fun i h2 h3 => by rw [List.getElem?_replicate, if_pos (by omega)]; rfl, by simp, by simp, by simp⟩
theorem Rel13.val_at {L : List Int} {h : List (Int × Int)} {many : Int} (r : Rel13 L h many) {i : Int} (h0 : 0 ≤ i) (h1 : i < many) : (L[i.toNat]?).getD 0 = match look h i with | none => 0 | some v => v + 1 := by rw [r.at_ i h0 h1]; rfl
theorem Rel13.bound {L : List Int} {h : List (Int × Int)} {many : Int} (r : Rel13 L h many) : ∀ x ∈ L, 0 ≤ x ∧ x ≤ 65536 := fun x hx => by
  obtain ⟨k, hk⟩ := List.mem_iff_getElem?.1 hx
  have hlt := (List.getElem?_eq_some_iff.1 hk).1
  have hl := r.len
  have h1 := r.at_ (k : Int) (by omega) (by omega)
  rw [show ((k : Int)).toNat = k from by omega, hk] at h1
  cases e : look h (k : Int) with
  | none => rw [e] at h1; simp only [Option.some.injEq] at h1; omega
  | some v =>
    rw [e] at h1
    have := r.val _ (look_mem e)
    simp only [Option.some.injEq] at h1
    simp only at this
    omega
theorem Rel13.lock {L L' : List Int} {h h' : List (Int × Int)} {many i by_ e e' : Int} (r : Rel13 L h many) (h1 : (h', e) = mLock h many i by_) (h2 : (L', e') = rLock L i by_) : e = e' ∧ Rel13 L' h' many := by
  unfold mLock at h1
  unfold rLock at h2
  have hl := r.len
  by_cases c1 : by_ < 0 ∨ 65535 < by_
  · rw [if_pos c1] at h1 h2; cases h1; cases h2; exact ⟨rfl, r⟩
  rw [if_neg c1] at h1 h2
  by_cases c2 : i < 0 ∨ many ≤ i
  · rw [if_pos c2] at h1; rw [if_pos (by omega)] at h2; cases h1; cases h2; exact ⟨rfl, r⟩
  rw [if_neg c2] at h1; rw [if_neg (by omega)] at h2
  have hv := r.val_at (i := i) (by omega) (by omega)
  cases hk : look h i with
  | some v =>
    rw [hk] at hv h1
    have hb := r.val _ (look_mem hk)
    simp only at hb hv
    rw [if_pos (by simp)] at h1; rw [if_pos (by omega)] at h2
    cases h1; cases h2; exact ⟨rfl, r⟩
  | none =>
    rw [hk] at hv h1
    simp only at hv
    rw [if_neg (by simp)] at h1; rw [if_neg (by omega)] at h2
    cases h1; cases h2
    refine ⟨rfl, by simp [hl], r.most, fun j j0 j1 => ?_, fun x hx => ?_, fun x hx => ?_, ?_⟩
    · rw [look_put]
      by_cases hij : i = j
      · subst hij; rw [if_pos rfl, List.getElem?_set_self (by omega)]
      · rw [if_neg hij, List.getElem?_set_ne (by omega)]; exact r.at_ j j0 j1
    · rw [put_new hk] at hx
      rcases List.mem_append.1 hx with hx | hx
      · exact r.val x hx
      · simp at hx; subst hx; simp only; omega
    · rw [put_new hk] at hx
      rcases List.mem_append.1 hx with hx | hx
      · exact r.key x hx
      · simp at hx; subst hx; simp only; omega
    · rw [put_new hk, List.map_append]
      refine List.nodup_append.2 ⟨r.nodup, by simp, fun a ha b hb => ?_⟩
      simp at hb; subst hb
      intro e; subst e; exact look_none.1 hk ha
theorem del_subl {h : List (Int × Int)} {i : Int} : (del h i).Sublist h := by
  induction h with
  | nil => exact List.Sublist.refl _
  | cons x r ih =>
    obtain ⟨a, u⟩ := x
    simp only [del]; split
    · exact List.sublist_cons_self _ _
    · exact ih.cons_cons _
theorem Rel13.unlock {L L' : List Int} {h h' : List (Int × Int)} {many i e e' a a' : Int} (r : Rel13 L h many) (h1 : (h', a, e) = mUnlock h many i) (h2 : (L', a', e') = rUnlock L i) : a = a' ∧ e = e' ∧ Rel13 L' h' many := by
  unfold mUnlock at h1
  unfold rUnlock at h2
  have hl := r.len
  by_cases c2 : i < 0 ∨ many ≤ i
  · rw [if_pos c2] at h1; rw [if_pos (by omega)] at h2; cases h1; cases h2; exact ⟨rfl, rfl, r⟩
  rw [if_neg c2] at h1; rw [if_neg (by omega)] at h2
  have hv := r.val_at (i := i) (by omega) (by omega)
  cases hk : look h i with
  | none =>
    rw [hk] at hv h1
    simp only at hv
    rw [if_neg (by simp)] at h1; rw [if_pos hv] at h2
    cases h1; cases h2; exact ⟨rfl, rfl, r⟩
  | some v =>
    rw [hk] at hv h1
    have hb := r.val _ (look_mem hk)
    simp only at hb hv
    rw [if_pos (by simp)] at h1; rw [if_neg (by omega), hv] at h2
    cases h1; cases h2
    refine ⟨by simp, rfl, by simp [hl], r.most, fun j j0 j1 => ?_, fun x hx => r.val x (del_subl.subset hx), fun x hx => r.key x (del_subl.subset hx), (del_subl.map _).nodup r.nodup⟩
    rw [look_del r.nodup]
    by_cases hij : i = j
    · subst hij; rw [if_pos rfl, List.getElem?_set_self (by omega)]
    · rw [if_neg hij, List.getElem?_set_ne (by omega)]; exact r.at_ j j0 j1
theorem Rel13.holder {L : List Int} {h : List (Int × Int)} {many i : Int} (r : Rel13 L h many) : rHolder L i = ((look h i).getD 0, (look h i).isSome) := by
  unfold rHolder
  have hl := r.len
  by_cases c : i < 0 ∨ many ≤ i
  · rw [if_pos (by omega)]
    cases hk : look h i with
    | none => rfl
    | some v => have := r.key _ (look_mem hk); simp only at this; omega
  · have hv := r.val_at (i := i) (by omega) (by omega)
    cases hk : look h i with
    | none => rw [hk] at hv; simp only at hv; rw [if_pos (by omega)]; rfl
    | some v =>
      rw [hk] at hv
      have hb := r.val _ (look_mem hk)
      simp only at hb hv
      rw [if_neg (by omega), hv]; simp
end Go.Proofs.Ytgeikokmhkfkgaa.L
