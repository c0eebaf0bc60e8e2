/- The engine: an object's last piece, apart from the others. -/
import Derived.Test.YtoakhhilmnfpkaaGreatDoorE11
namespace Go.Proofs.YtoakhhilmnfpkaaGreatDoor.L
open Go.RowKit Go.MapKept Go.Maps

section
variable {L L' : List Res} {N N' : Res} {w w' : World} {k : Nat}
theorem all_join (h : (allR L).p w) (hn : N.p w) (hd : ∀ b ∈ (allR L).fp, b ∉ N.fp) : (allR (L ++ [N])).p w :=
  ⟨List.pairwise_append.2 ⟨h.1, by simp, fun r hr x hx b hb hb' => by
    rw [List.mem_singleton] at hx; subst hx; exact hd b (mem_allR.2 ⟨r, hr, hb⟩) hb'⟩, fun r hr => by
    rcases List.mem_append.1 hr with hr | hr
    · exact h.2 r hr
    · rw [List.mem_singleton] at hr; subst hr; exact hn⟩
theorem all_joinlt (h : ∀ b ∈ (allR L).fp, b < k) (hn : ∀ b ∈ N.fp, b < k) : ∀ b ∈ (allR (L ++ [N])).fp, b < k := fun b hb => by
  obtain ⟨r, hr, hb2⟩ := mem_allR.1 hb
  rcases List.mem_append.1 hr with hr | hr
  · exact h b (mem_allR.2 ⟨r, hr, hb2⟩)
  · rw [List.mem_singleton] at hr; rw [hr] at hb2; exact hn b hb2
theorem all_fst (h : (allR (L ++ [N])).p w) : (allR L).p w := ⟨(List.pairwise_append.1 h.1).1, fun r hr => h.2 r (List.mem_append.2 (.inl hr))⟩
theorem all_snd (h : (allR (L ++ [N])).p w) : N.p w := h.2 N (List.mem_append.2 (.inr (.head _)))
theorem all_fstlt (h : ∀ b ∈ (allR (L ++ [N])).fp, b < k) : ∀ b ∈ (allR L).fp, b < k := fun b hb => by
  obtain ⟨r, hr, hb⟩ := mem_allR.1 hb; exact h b (mem_allR.2 ⟨r, List.mem_append.2 (.inl hr), hb⟩)
theorem all_apart (h : (allR (L ++ [N])).p w) : ∀ b ∈ (allR L).fp, b ∉ N.fp := fun b hb hb' => by
  obtain ⟨r, hr, hb⟩ := mem_allR.1 hb; exact (List.pairwise_append.1 h.1).2.2 r hr N (.head _) b hb hb'
theorem upd_join (hu : Upd (allR L) (allR L') w w') (hn : N'.from_ [N] w w') (hd : ∀ b ∈ (allR L').fp, b ∉ N'.fp) : Upd (allR (L ++ [N])) (allR (L' ++ [N'])) w w' := by
  refine ⟨hu.1.mono fun i _ hi => ?_, all_join hu.2.1 hn.1 hd, fun b hb => ?_⟩
  · obtain ⟨r, hr, hb⟩ := mem_allR.1 hi; exact mem_allR.2 ⟨r, List.mem_append.2 (.inl hr), hb⟩
  · obtain ⟨r, hr, hb2⟩ := mem_allR.1 hb
    rcases List.mem_append.1 hr with hr | hr
    · obtain ⟨h1, h2⟩ := hu.2.2 b (mem_allR.2 ⟨r, hr, hb2⟩)
      refine ⟨h1.imp_left fun q => ?_, h2⟩
      obtain ⟨x, hx, hb⟩ := mem_allR.1 q; exact mem_allR.2 ⟨x, List.mem_append.2 (.inl hx), hb⟩
    · rw [List.mem_singleton] at hr; rw [hr] at hb2
      obtain ⟨h1, h2⟩ := hn.2 b hb2
      refine ⟨h2.imp_left fun ⟨g, hg, hb3⟩ => ?_, h1⟩
      rw [List.mem_singleton] at hg; rw [hg] at hb3
      exact mem_allR.2 ⟨_, List.mem_append.2 (.inr (.head _)), hb3⟩
/-- A row of the function's own, handed back by what turns an object whose blocks stay its own. -/
theorem Ws.outRowU {α : Type} {en : α → List Value} {sz E : Nat} {w0 : World} {S : Nat → Prop} {H G : List Res} (h : Ws w0 S H G w) (i : Nat) {A : Option Addr} {n c : Nat} {l : List α} (hi : H[i]? = some (rowR E sz en (.slice A n c) l)) (hlen : ∀ x, (en x).length = sz) (j : Nat) {o : Res} (hj : H[j]? = some o) (hne : i ≠ j) (hS : ∀ b, S b → b ∈ o.fp) :
    (roR A sz en l).from_ [] w0 w ∧ ∀ b ∈ o.fp, b ∉ (roR A sz en l).fp := by
  have hm := List.mem_of_getElem? hi
  obtain ⟨il, ie⟩ := List.getElem?_eq_some_iff.1 hi
  obtain ⟨jl, je⟩ := List.getElem?_eq_some_iff.1 hj
  have pw := List.pairwise_iff_getElem.1 h.nd
  have apart : ∀ b ∈ (roR A sz en l).fp, b ∉ o.fp := fun b hb hb' => by
    have hb := rowR_fp (E := E) (n := n) (c := c) b hb
    rcases Nat.lt_or_gt_of_ne hne with q | q
    · exact pw i j il jl q b (by rw [ie]; exact hb) (by rw [je]; exact hb')
    · exact pw j i jl il q b (by rw [je]; exact hb') (by rw [ie]; exact hb)
  exact ⟨⟨rowR_ro (h.get i hi) hlen, fun b hb => ⟨h.lt _ hm b (rowR_fp b hb), .inr ((h.may _ hm b (rowR_fp b hb)).resolve_left fun s => apart b hb (hS b s))⟩⟩, fun b hb hb' => apart b hb' hb⟩
end
end Go.Proofs.YtoakhhilmnfpkaaGreatDoor.L
