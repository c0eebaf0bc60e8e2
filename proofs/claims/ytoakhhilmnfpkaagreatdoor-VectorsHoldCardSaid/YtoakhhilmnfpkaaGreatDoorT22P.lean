/- Contracts, walked by program over the engine's laws. -/
import Derived.Test.YtoakhhilmnfpkaaGreatDoorProg
import Derived.Test.YtoakhhilmnfpkaaGreatDoorT11
import Derived.Test.YtoakhhilmnfpkaaGreatDoorRel24
namespace Go.Proofs.YtoakhhilmnfpkaaGreatDoor.L
open Go.RowKit
open Go.Value renaming int → vI, slice → vS, bool → vB, pointer → vP, func → vF, agg → vA, map → vM, tuple → vT

theorem come_no0 {en : Int} {s s' : KSt} {a er : Int} {x : Event} (h : (s', a, er) = comeK en s x) (her : er ≠ 0) : s' = s := by
  unfold comeK at h; split at h
  · rename_i q; exact absurd (congrArg (fun z => z.2.2) h) her
  · exact congrArg Prod.fst h
theorem come_is0 {en : Int} {s s' : KSt} {a er : Int} {x : Event} (h : (s', a, er) = comeK en s x) (her : er = 0) : comeErr en s x = 0 ∧ s' = comeS s x ∧ a = comeAt s x := by
  unfold comeK at h; split at h
  · rename_i q; exact ⟨q, congrArg Prod.fst h, congrArg (fun z => z.2.1) h⟩
  · rename_i q; exact absurd ((congrArg (fun z => z.2.2) h).symm.trans her) q
/-- What they know is what comes of some events. -/
def Reach (en : Int) (s : KSt) : Prop := ∃ E, Came en E ∧ s = stK E
theorem Reach.start {en : Int} : Reach en kst0 := ⟨[], .nil, rfl⟩
theorem Reach.own {en : Int} {s : KSt} (h : Reach en s) {x : Event} (hb : s.g x.g ≠ none) : getC (kacc s x) x.g = getC (gv s x.g) x.g := by
  obtain ⟨E, hE, rfl⟩ := h; exact (hE.inv.own hb).1.trans (hE.inv.own hb).2.symm
theorem Reach.come {en : Int} {s s' : KSt} {a er : Int} {x : Event} (h : Reach en s) (hc : (s', a, er) = comeK en s x) : Reach en s' := by
  by_cases q : er = 0
  · obtain ⟨h1, h2, -⟩ := come_is0 hc q
    obtain ⟨E, hE, rfl⟩ := h
    exact ⟨E ++ [x], hE.snoc h1, by rw [h2, stK_snoc]⟩
  · rw [come_no0 hc q]; exact h

end Go.Proofs.YtoakhhilmnfpkaaGreatDoor.L
