/- Worlds that have grown alone: so many draws, some blocks laid. -/
import Derived.Test.YtgkhaoogfpnbbaaLib
import Derived.Sort.Grow
import Derived.Deep.Draws
namespace Go.Proofs.Ytgkhaoogfpnbbaa.L
open Go.RowKit Go.MapKept Go.Maps Go.Sort

/-- w' is w after some draws, with some blocks laid behind it. -/
def Gr (w w' : World) : Prop := ∃ q os', w' = grow (w.drewN q) os'
theorem Gr.refl (w : World) : Gr w w := ⟨0, #[], by rw [grow_empty]; rfl⟩
theorem Gr.drew {a b : World} (h : Gr a b) : Gr a b.drew := by
  obtain ⟨q, os, rfl⟩ := h
  exact ⟨q + 1, os, rfl⟩
theorem Gr.alloc {a b : World} (h : Gr a b) (o : Obj) : Gr a (b.alloc o) := by
  obtain ⟨q, os, rfl⟩ := h
  exact ⟨q, os ++ #[o], by rw [alloc_eq_grow, grow_grow]⟩
theorem Gr.trans {a b c : World} (h : Gr a b) (k : Gr b c) : Gr a c := by
  obtain ⟨q, os, rfl⟩ := h
  obtain ⟨q', os', rfl⟩ := k
  refine ⟨q + q', os ++ os', ?_⟩
  show grow (grow ((a.drewN q).drewN q') os) os' = _
  rw [grow_grow, World.drewN_drewN]
theorem Gr.cell {a b : World} (h : Gr a b) {p : Addr} {v : Value} (e : a.cell? p = some v) : b.cell? p = some v := by
  obtain ⟨q, os, rfl⟩ := h
  have hb : p.block < a.heap.size := by
    unfold World.cell? at e
    cases q2 : a.heap[p.block]? with
    | none => rw [q2] at e; cases e
    | some o => exact (Array.getElem?_eq_some_iff.1 q2).1
  rw [cell?_grow _ _ _ (by exact hb)]; exact e
theorem Gr.fr {a b : World} (h : Gr a b) : Fr No a b := by
  obtain ⟨q, os, rfl⟩ := h
  exact ⟨rfl, rfl, rfl, by simp [grow], fun k hk _ => by simp [grow, Array.getElem?_append, hk]⟩
end Go.Proofs.Ytgkhaoogfpnbbaa.L
