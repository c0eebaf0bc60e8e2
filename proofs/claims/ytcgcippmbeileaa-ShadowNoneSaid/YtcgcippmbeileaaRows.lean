/-
  No cell of these rows narrows 'for every input' (looked for: loops, veiled, ifaces, maps, wideKeys, modest, calm, conditions, laid).
  DERIVED. THE GIVEN ROWS OF THIS SEAT. 4 by the template 'for every input the law returns true; each argument reads behind the call as it read before'; 0 by the template 'total and deterministic' (their statements: YtcgcippmbeileaaTotals.lean).
  GIVEN WITH THE SEED: the statements are not yours to turn. If you find one false, say at which input.
  Laid BY PROGRAM, IN A SANDBOX (cutbox-rows.mjs): the forced cells as the released guide's own fill.sh prints them over the translation 0af05d8e5bc1adae… (all of the seat's roots in one cut). By AI agents, Wed Nov 11 2026. No macro, syntax, notation, axiom, sorry.
-/
import Derived.Test.YtcgcippmbeileaaChecked
import GoSem.Claim
import GoSem.ClaimJoined
import GoSem.ClaimMapViews
import Derived.JoinedTies
import Derived.KernelRfl
namespace Go.Proofs.Ytcgcippmbeileaa
/- THE CELL 'sum', in the pinned program and in every row, IS THE sha256 OF THE DUMP (.gsa) THAT YtcgcippmbeileaaProg.lean LOADS. Nothing in Lean hashes anything: it is a label: what it is worth is what the hold of that sum in a sandbox is worth. -/
noncomputable def Try.pinned : Pinned := { name := "ytcgcippmbeileaa", sum := "0af05d8e5bc1adae6f3e63e8a8fda42dedf1d8a042bbf861be44fcd871753daf", checked := Try.checked }
namespace Rows
def none {H : Type} : Left H := { results := [], args := [] }

/-- 'linesmanlaw22.ShadowHolds': WHATEVER THE INPUT: true; the input reads as it did. -/
def shadowHoldsSpec : ChangeSpec := { name := "shadowHolds", fn := fun _ => fun
  | [d] => { results := [.lit (.bool true)], args := [d] }
  | _ => none }
def shadowHoldsRow : OpenClaim := { program := "ytcgcippmbeileaa", sum := "0af05d8e5bc1adae6f3e63e8a8fda42dedf1d8a042bbf861be44fcd871753daf", func := "linesman/linesmanlaw22.ShadowHolds", spec := "shadowHolds", unfollowed := true, recurses := true, apart := false }
def ShadowHoldsSaid : Prop := shadowHoldsRow.holds Try.pinned (OpenSpec.ofChange shadowHoldsSpec)

/-- ITS FALSE NEIGHBOUR: 'it returns false'. Refute it at one input. -/
def shadowHoldsWrong : ChangeSpec := { name := "shadowHolds", fn := fun _ => fun
  | [d] => { results := [.lit (.bool false)], args := [d] }
  | _ => none }
def ShadowHoldsWrongFalsely : Prop := shadowHoldsRow.holds Try.pinned (OpenSpec.ofChange shadowHoldsWrong)

/-- 'linesmanlaw22.ShadowLays': WHATEVER THE INPUT: true; the input reads as it did. -/
def shadowLaysSpec : ChangeSpec := { name := "shadowLays", fn := fun _ => fun
  | [d] => { results := [.lit (.bool true)], args := [d] }
  | _ => none }
def shadowLaysRow : OpenClaim := { program := "ytcgcippmbeileaa", sum := "0af05d8e5bc1adae6f3e63e8a8fda42dedf1d8a042bbf861be44fcd871753daf", func := "linesman/linesmanlaw22.ShadowLays", spec := "shadowLays", unfollowed := true, recurses := true, apart := false }
def ShadowLaysSaid : Prop := shadowLaysRow.holds Try.pinned (OpenSpec.ofChange shadowLaysSpec)

/-- ITS FALSE NEIGHBOUR: 'it returns false'. Refute it at one input. -/
def shadowLaysWrong : ChangeSpec := { name := "shadowLays", fn := fun _ => fun
  | [d] => { results := [.lit (.bool false)], args := [d] }
  | _ => none }
def ShadowLaysWrongFalsely : Prop := shadowLaysRow.holds Try.pinned (OpenSpec.ofChange shadowLaysWrong)

/-- 'linesmanlaw22.ShadowCopies': WHATEVER THE INPUT: true; the input reads as it did. -/
def shadowCopiesSpec : ChangeSpec := { name := "shadowCopies", fn := fun _ => fun
  | [d1, d2, d3] => { results := [.lit (.bool true)], args := [d1, d2, d3] }
  | _ => none }
def shadowCopiesRow : OpenClaim := { program := "ytcgcippmbeileaa", sum := "0af05d8e5bc1adae6f3e63e8a8fda42dedf1d8a042bbf861be44fcd871753daf", func := "linesman/linesmanlaw22.ShadowCopies", spec := "shadowCopies", unfollowed := true, recurses := true, apart := false }
def ShadowCopiesSaid : Prop := shadowCopiesRow.holds Try.pinned (OpenSpec.ofChange shadowCopiesSpec)

/-- ITS FALSE NEIGHBOUR: 'it returns false'. Refute it at one input. -/
def shadowCopiesWrong : ChangeSpec := { name := "shadowCopies", fn := fun _ => fun
  | [d1, d2, d3] => { results := [.lit (.bool false)], args := [d1, d2, d3] }
  | _ => none }
def ShadowCopiesWrongFalsely : Prop := shadowCopiesRow.holds Try.pinned (OpenSpec.ofChange shadowCopiesWrong)

/-- 'linesmanlaw22.ShadowNone': WHATEVER THE INPUT: true; the input reads as it did. -/
def shadowNoneSpec : ChangeSpec := { name := "shadowNone", fn := fun _ => fun
  | [d1, d2] => { results := [.lit (.bool true)], args := [d1, d2] }
  | _ => none }
def shadowNoneRow : OpenClaim := { program := "ytcgcippmbeileaa", sum := "0af05d8e5bc1adae6f3e63e8a8fda42dedf1d8a042bbf861be44fcd871753daf", func := "linesman/linesmanlaw22.ShadowNone", spec := "shadowNone", unfollowed := true, recurses := true, apart := false }
def ShadowNoneSaid : Prop := shadowNoneRow.holds Try.pinned (OpenSpec.ofChange shadowNoneSpec)

/-- ITS FALSE NEIGHBOUR: 'it returns false'. Refute it at one input. -/
def shadowNoneWrong : ChangeSpec := { name := "shadowNone", fn := fun _ => fun
  | [d1, d2] => { results := [.lit (.bool false)], args := [d1, d2] }
  | _ => none }
def ShadowNoneWrongFalsely : Prop := shadowNoneRow.holds Try.pinned (OpenSpec.ofChange shadowNoneWrong)

/- THE SECOND FORM. 'bulk': how many values and letters a reading holds, each counted each time it is reached (what is shared counts as often as it is met; a slice's spare places count too). A statement '..UptoSaid' is the law's where the arguments, and the package variables that the reading takes, are together of bulk at most 1048576: NARROWER than '..Said'. Prove '..Said' where nothing that the law and all that it calls make is longer than what came in: it says more and counts as full. Else prove '..UptoSaid'. A law counts once. -/
mutual
def uptoBulk {H : Type} : DataW H → Nat
  | .lit (.string bytes) => bytes.length + 1
  | .lit _ => 1
  | .nil => 1
  | .ptr d => uptoBulk d + 1
  | .slice elems spare => uptoBulkAll elems + uptoBulkAll spare + 1
  | .agg parts => uptoBulkAll parts + 1
  | .iface _ d => uptoBulk d + 1
  | .map entries => uptoBulkEntries entries + 1
  | .held _ => 1
def uptoBulkAll {H : Type} : List (DataW H) → Nat
  | [] => 0
  | d :: r => uptoBulk d + uptoBulkAll r
def uptoBulkEntries {H : Type} : List (Lit × DataW H) → Nat
  | [] => 0
  | x :: r => uptoBulkEntry x + uptoBulkEntries r
def uptoBulkEntry {H : Type} : Lit × DataW H → Nat
  | (.string bytes, d) => bytes.length + uptoBulk d + 1
  | (_, d) => uptoBulk d + 1
 end
def uptoSmall : (H : Type) → List (DataW H) → Bool := fun _ ds => decide (uptoBulkAll ds ≤ 1048576)
def OpenSpec.upto (s : _root_.Go.ChangeSpec) : _root_.Go.OpenSpec := { _root_.Go.OpenSpec.ofChange s with cond := some uptoSmall }

/-- 'linesmanlaw22.ShadowHolds', WHERE WHAT IT READS IS OF BULK AT MOST 1048576: true; the input reads as it did. -/
def shadowHoldsUptoRow : OpenClaim := { program := "ytcgcippmbeileaa", sum := "0af05d8e5bc1adae6f3e63e8a8fda42dedf1d8a042bbf861be44fcd871753daf", func := "linesman/linesmanlaw22.ShadowHolds", spec := "shadowHolds", unfollowed := true, recurses := true, apart := false, narrowed := true }
def ShadowHoldsUptoSaid : Prop := shadowHoldsUptoRow.holds Try.pinned (OpenSpec.upto shadowHoldsSpec)

/-- 'linesmanlaw22.ShadowLays', WHERE WHAT IT READS IS OF BULK AT MOST 1048576: true; the input reads as it did. -/
def shadowLaysUptoRow : OpenClaim := { program := "ytcgcippmbeileaa", sum := "0af05d8e5bc1adae6f3e63e8a8fda42dedf1d8a042bbf861be44fcd871753daf", func := "linesman/linesmanlaw22.ShadowLays", spec := "shadowLays", unfollowed := true, recurses := true, apart := false, narrowed := true }
def ShadowLaysUptoSaid : Prop := shadowLaysUptoRow.holds Try.pinned (OpenSpec.upto shadowLaysSpec)

/-- 'linesmanlaw22.ShadowCopies', WHERE WHAT IT READS IS OF BULK AT MOST 1048576: true; the input reads as it did. -/
def shadowCopiesUptoRow : OpenClaim := { program := "ytcgcippmbeileaa", sum := "0af05d8e5bc1adae6f3e63e8a8fda42dedf1d8a042bbf861be44fcd871753daf", func := "linesman/linesmanlaw22.ShadowCopies", spec := "shadowCopies", unfollowed := true, recurses := true, apart := false, narrowed := true }
def ShadowCopiesUptoSaid : Prop := shadowCopiesUptoRow.holds Try.pinned (OpenSpec.upto shadowCopiesSpec)

/-- 'linesmanlaw22.ShadowNone', WHERE WHAT IT READS IS OF BULK AT MOST 1048576: true; the input reads as it did. -/
def shadowNoneUptoRow : OpenClaim := { program := "ytcgcippmbeileaa", sum := "0af05d8e5bc1adae6f3e63e8a8fda42dedf1d8a042bbf861be44fcd871753daf", func := "linesman/linesmanlaw22.ShadowNone", spec := "shadowNone", unfollowed := true, recurses := true, apart := false, narrowed := true }
def ShadowNoneUptoSaid : Prop := shadowNoneUptoRow.holds Try.pinned (OpenSpec.upto shadowNoneSpec)

end Rows
end Go.Proofs.Ytcgcippmbeileaa
