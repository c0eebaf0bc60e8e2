/- The engine: an object's last piece, apart from the others. -/
import Derived.Test.YtoakhhilmnfpkaaGreatDoorE11
namespace Go.Proofs.YtoakhhilmnfpkaaGreatDoor.L
open Go.RowKit Go.MapKept Go.Maps

section
variable {L L' : List Res} {N N' : Res} {w w' : World} {k : Nat}
theorem all_join (h : (allR L).p w) (hn : N.p w) (hd : ∀ b ∈ (allR L).fp, b ∉ N.fp) : (allR (L ++ [N])).p w :=
  ⟨List.pairwise_append.2 ⟨h.1, by simp, fun r hr x hx b hb hb' => by
    rw [List.mem_singleton] at hx; subst hx; exact hd b (mem_allR.2 ⟨r, hr, hb⟩) hb'⟩, fun r hr => by
    rcases List.mem_append.1 hr with hr | hr
    · exact h.2 r hr
    · rw [List.mem_singleton] at hr; subst hr; exact hn⟩
theorem all_joinlt (h : ∀ b ∈ (allR L).fp, b < k) (hn : ∀ b ∈ N.fp, b < k) : ∀ b ∈ (allR (L ++ [N])).fp, b < k := fun b hb => by
  obtain ⟨r, hr, hb2⟩ := mem_allR.1 hb
  rcases List.mem_append.1 hr with hr | hr
  · exact h b (mem_allR.2 ⟨r, hr, hb2⟩)
  · rw [List.mem_singleton] at hr; rw [hr] at hb2; exact hn b hb2
end
end Go.Proofs.YtoakhhilmnfpkaaGreatDoor.L
