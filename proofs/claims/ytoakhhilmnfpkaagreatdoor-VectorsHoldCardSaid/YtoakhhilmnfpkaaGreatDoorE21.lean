/- The engine: the laws inside a fence in short. -/
import Derived.Test.YtoakhhilmnfpkaaGreatDoorE20
namespace Go.Proofs.YtoakhhilmnfpkaaGreatDoor.L
open Go.RowKit Go.MapKept Go.Maps

section
variable {P : Program} {ops : Array Oper} {Q : Exit → Act → World → Prop} {n : Nat} {ds : List Deferred} {L : List (Nat × Value)} {a : Act} {w : World} {o : Oper} {rest : List Oper} {C : World → Prop} {r : Option Nat}
theorem sf_p (v : Value) (hA : Fm n ds L a) (next : ∀ a', Fm n ds (addL o.dst v L) a' → wpListIn (FF r) 0 P ops Q rest a' w) (hk : okOp L o = true := by kernel_rfl) (hw : wants ops L o true = true := by kernel_rfl) (hd : dOk n o.dst = true := by kernel_rfl) (hnd : noDefer [o] = true := by kernel_rfl)
    (hp : ∀ w, (execOp (ev L) o).run P w = .ok (.value v) w := by intro _; kernel_rfl) : wpListIn (FF r) 0 P ops Q (o :: rest) a w :=
  st_rdF (C := fun _ => True) hA hk hw hd hnd trivial (Rd.pure hp) next
theorem sf_q (v : Value) (hA : Fm n ds L a) (hC : C w) (hr : Rd P (ev L) o C v) (next : ∀ a', Fm n ds (addL o.dst v L) a' → wpListIn (FF r) 0 P ops Q rest a' w) (hk : okOp L o = true := by kernel_rfl) (hw : wants ops L o true = true := by kernel_rfl) (hd : dOk n o.dst = true := by kernel_rfl) (hnd : noDefer [o] = true := by kernel_rfl) : wpListIn (FF r) 0 P ops Q (o :: rest) a w :=
  st_rdF hA hk hw hd hnd hC hr next
theorem sf_s (hA : Fm n ds L a) (h : RunsF P (ev L) o w fun v w' => ∀ a', Fm n ds (addL o.dst v L) a' → wpListIn (FF r) 0 P ops Q rest a' w') (hk : okOp L o = true := by kernel_rfl) (hw : wants ops L o true = true := by kernel_rfl) (hd : dOk n o.dst = true := by kernel_rfl) (hnd : noDefer [o] = true := by kernel_rfl) : wpListIn (FF r) 0 P ops Q (o :: rest) a w :=
  stF hA hk hw hd hnd h
theorem sf_k (hA : Fm n ds L a) (next : ∀ a', Fm n ds (addL o.dst undef L) a' → wpListIn (FF r) 0 P ops Q rest a' w) (hw : wants ops L o false = true := by kernel_rfl) (hd : dOk n o.dst = true := by kernel_rfl) : wpListIn (FF r) 0 P ops Q (o :: rest) a w :=
  st_skipF hA hw hd next
end
end Go.Proofs.YtoakhhilmnfpkaaGreatDoor.L
