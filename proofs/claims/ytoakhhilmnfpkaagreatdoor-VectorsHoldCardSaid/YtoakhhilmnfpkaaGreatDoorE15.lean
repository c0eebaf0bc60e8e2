/- The engine: what ranges within a loop leave behind. -/
import Derived.Test.YtoakhhilmnfpkaaGreatDoorE14
namespace Go.Proofs.YtoakhhilmnfpkaaGreatDoor.L
open Go.RowKit Go.MapKept Go.Maps

section
variable {P : Program} {fn : Func} {R : Ending → World → Prop} {w w0 : World} {S : Nat → Prop} {H G K : List Res} {tm : Array Value}
theorem Ws.defs0 (h : Ws w0 S H G w) : Ws w0 S (allR (List.map DefR []) :: H) G w := Ws.pack (L := []) h
theorem Ws.defCons {D : Nat} {dl : List Nat} (h : Ws w0 S (DefR D :: allR (List.map DefR dl) :: K) G w) : Ws w0 S (allR (List.map DefR (D :: dl)) :: K) G w := by
  have h1 : Ws w0 S (allR (List.map DefR dl) :: DefR D :: K) G w := Ws.turnL (K := K) (L := [DefR D, allR (List.map DefR dl)]) (L' := [allR (List.map DefR dl), DefR D]) h (List.Perm.swap _ _ _)
  have h2 : Ws w0 S (List.map DefR dl ++ (DefR D :: K)) G w := h1.unpack
  have h3 : Ws w0 S (List.map DefR (D :: dl) ++ K) G w := by
    refine Ws.turnL (K := K) (L := List.map DefR dl ++ [DefR D]) (L' := DefR D :: List.map DefR dl) ?_ (List.perm_append_singleton _ _).symm
    simpa using h2
  exact h3.pack
theorem Ws.defUncons {D : Nat} {dl : List Nat} (h : Ws w0 S (allR (List.map DefR (D :: dl)) :: K) G w) : Ws w0 S (allR (List.map DefR dl) :: DefR D :: K) G w := by
  have h1 : Ws w0 S (List.map DefR (D :: dl) ++ K) G w := h.unpack
  have h2 : Ws w0 S (List.map DefR dl ++ (DefR D :: K)) G w := by
    have := Ws.turnL (K := K) (L := DefR D :: List.map DefR dl) (L' := List.map DefR dl ++ [DefR D]) h1 (List.perm_append_singleton _ _)
    simpa using this
  exact h2.pack
theorem leaveDs : ∀ {dl : List Nat} {w : World}, Ws w0 S (allR (List.map DefR dl) :: K) G w → (∀ w', Ws w0 S K G w' → LeavesInM (FF none) 0 P fn tm R [] .returning w') → LeavesInM (FF none) 0 P fn tm R (List.map mk_ dl) .returning w
  | [], w, hW, next => next w (hW.less (List.sublist_cons_self _ _))
  | _ :: dl, _, hW, next => leaveD (ds := List.map mk_ dl) hW.defUncons 1 rfl (H' := allR (List.map DefR dl) :: K) rfl fun _ h => leaveDs h next
end
theorem cel_fp {α : Type} {en : α → List Value} {sz : Nat} {l : List α} {b off : Nat} {cs : Array Value} {T : TypeId} : ∀ x ∈ (roR (some ⟨b, off, none⟩) sz en l).fp, x ∈ (Cel b cs T).fp := fun x hx => by
  unfold roR at hx
  simp only at hx
  split at hx
  · cases hx
  · simpa [Cel] using hx
end Go.Proofs.YtoakhhilmnfpkaaGreatDoor.L
