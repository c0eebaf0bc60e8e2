/- The engine: ranges over no map; parts of arrays that are values; what a call makes, told twice. -/
import Derived.Test.YtoakhhilmnfpkaaGreatDoorE13
import Derived.LoopN
import Derived.LoopNIn
namespace Go.Proofs.YtoakhhilmnfpkaaGreatDoor.L
open Go.RowKit Go.MapKept Go.Maps

/-- A range over no map. -/
def IterN (r : Nat) : Res := ⟨[r], fun w => ∃ a s c, w.heap[r]? = some (.mapIter none a s c), fun _ _ h hp => by
  obtain ⟨a, s, c, hp⟩ := hp
  exact ⟨a, s, c, (h r (.head _)).trans hp⟩⟩
section
variable {P : Program} {ρ : Operand → Value} {Φ : Value → World → Prop} {w w0 : World} {S : Nat → Prop} {H G : List Res}
variable {d : Option Tmp} {ty : TypeId} {pos : String} {aft : Array Edge} {g : Option (Nat × Bool)}
theorem Runs.rangeNil {T k e : TypeId} {x : Operand} (hx : ρ x = .map none) (hT : P.underlying T = some (.map k e)) (hW : Ws w0 S H G w)
    (next : ∀ r w', Ws w0 S (IterN r :: H) G w' → Fr No w w' → Φ (.pointer (some ⟨r, 0, none⟩)) w') : Runs P ρ ⟨d, .range T x, ty, pos, aft, g⟩ w Φ := by
  have he : (execOp ρ ⟨d, .range T x, ty, pos, aft, g⟩).run P w = .ok (.value (.pointer (some ⟨w.heap.size, 0, none⟩))) (w.alloc (.mapIter none 0 #[] 0)) := by
    show (do let r ← Instr.range T (ρ x); Pure.pure (Next.value r) : Sem Next).run P w = _
    rw [hx, Sem.run_bind, run_range_nilMap w T k e hT]
    rfl
  unfold Runs
  rw [he]
  exact next w.heap.size _ (hW.alloc _ _ (show (IterN w.heap.size).p _ from ⟨0, #[], 0, blk_new w _⟩) rfl) ((Fr.refl No w).alloc _)
theorem Rd.nextNil {C : World → Prop} {x : Operand} {r : Nat} (hx : ρ x = .pointer (some ⟨r, 0, none⟩)) (hi : ∀ w, C w → (IterN r).p w) : Rd P ρ ⟨d, .next x false, ty, pos, aft, g⟩ C (.tuple #[.bool false]) :=
  Rd.of (s := Instr.next (ρ x) false ty) rfl fun w hw => by
    obtain ⟨a, s, c, hr⟩ := hi w hw
    rw [hx]
    simp only [Instr.next, getObj, Sem.run_bind, Sem.run, hr, Result.andThen]
    rfl
end
end Go.Proofs.YtoakhhilmnfpkaaGreatDoor.L
