/- Layer 26: room for accesses. -/
import Derived.Test.YtoakhhilmnfpkaaGreatDoorT24
import Derived.Test.YtoakhhilmnfpkaaGreatDoorLay
import Derived.Shelf.Spec.SlicesGrow
import Derived.Laws.AppendOwn
namespace Go.Proofs.YtoakhhilmnfpkaaGreatDoor.L
open Go.RowKit Go.MapKept Go.Maps Go.Shelf

theorem e_grow (n : Nat) (w : World) (hn : n ≤ 1000000) :
    Calls Tryz.prog 113 #[.slice none 0 0, .int .i64 (n : Int)] w (Fresh 52 4 enAcc [] w) := by
  by_cases h0 : n = 0
  · subst h0
    have hc := Any8.slices_Grow_room (P := Tryz.prog) (ρ := Tryz.growA_ren) Tryz.growA none 0 0 0 w (Nat.le_refl _) (by decide) (by decide) (Nat.le_refl _)
    change Calls Tryz.prog 113 _ _ _ at hc
    refine hc.mono ?_
    rintro e w' ⟨rfl, rfl⟩
    exact ⟨_, rfl, World.ownsRow_nil _ _ _ _, Fr.refl _ _⟩
  · obtain ⟨z, bytes, hinfo, hz, hby⟩ := elt_Acc.info
    obtain ⟨i0, hi, hz0, hz1, hz2⟩ := info_parts hinfo
    have hc := Any8.slices_Grow_grow (P := Tryz.prog) (ρ := Tryz.growA_ren) Tryz.growA i0 z hi hz0 (by rw [hz1]; exact elt_Acc.pos) none 0 0 n [] w (Nat.le_refl _) (by omega) (by rw [hz2, Nat.zero_add]; exact Nat.le_trans (Nat.mul_le_mul hn hby) (by decide)) (by omega) (by simp) (fun _ => rfl) (fun a ha => by cases ha)
    change Calls Tryz.prog 113 _ _ _ at hc
    refine hc.mono ?_
    rintro e w' ⟨rfl, rfl⟩
    have hge := grownCap_ge w (0 + n) 0 (Tryz.growA_ren.t 25)
    refine ⟨_, rfl, ⟨by simp [flat], .inr ⟨w.heap.size, _, _, rfl, Nat.le_refl _, by rw [show w.heap.size = w.drew.heap.size from rfl]; exact World.alloc_heap_new _ _, Nat.zero_le _, grownCap_le_maxLen _ _ _ _ (by simp only [maxLen]; omega), ?_, by simp [flat]⟩⟩, ((Fr.refl No w).drew.alloc _)⟩
    rw [Array.size_append, Array.size_append, size_zeroCells, size_zeroCells, hz]
    generalize grownCap w (0 + n) 0 (Tryz.growA_ren.t 25) = q at hge
    simp only [List.size_toArray, List.length_nil]
    omega
end Go.Proofs.YtoakhhilmnfpkaaGreatDoor.L
