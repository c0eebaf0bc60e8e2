/- The engine: what acts in a drawn region, its guard not met. -/
import Derived.Test.YtoakhhilmnfpkaaGreatDoorE15
namespace Go.Proofs.YtoakhhilmnfpkaaGreatDoor.L
open Go.RowKit Go.MapKept Go.Maps

section
variable {P : Program} {ops : Array Oper} {Q : Exit → Act → World → Prop} {n : Nat} {ds : List Deferred} {L : List (Nat × Value)} {a : Act} {w : World} {i : Nat} {oi : Oper}
theorem sr_pass (hi : ops[i]? = some oi) (hA : Fm n ds L a) (hw : wants ops L oi false = true) (hd : dOk n oi.dst = true) {K : Act → World → Prop}
    (h : ∀ a', Fm n ds (addL oi.dst undef L) a' → K a' w) : wpOp P ops Q i K a w := by
  unfold wpOp
  rw [hi]
  simp only
  rw [if_neg (by rw [hA.wanted hw]; simp)]
  exact h _ (hA.put hd _)
end
end Go.Proofs.YtoakhhilmnfpkaaGreatDoor.L
