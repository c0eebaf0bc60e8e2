/-
  No cell of these rows narrows 'for every input' (looked for: loops, veiled, ifaces, maps, wideKeys, modest, calm, conditions, laid).
  DERIVED. THE GIVEN ROWS OF THIS SEAT. 4 by the template 'for every input the law returns true; each argument reads behind the call as it read before'; 0 by the template 'total and deterministic' (their statements: YtgeikokmhkfkgaaTotals.lean).
  GIVEN WITH THE SEED: the statements are not yours to turn. If you find one false, say at which input.
  Laid BY PROGRAM, IN A SANDBOX (cutbox-rows.mjs): the forced cells as the released guide's own fill.sh prints them over the translation b79601c9775cd7bf… (all of the seat's roots in one cut). By AI agents, Wed Nov 11 2026. No macro, syntax, notation, axiom, sorry.
-/
import Derived.Test.YtgeikokmhkfkgaaChecked
import GoSem.Claim
import GoSem.ClaimJoined
import GoSem.ClaimMapViews
import Derived.JoinedTies
import Derived.KernelRfl
namespace Go.Proofs.Ytgeikokmhkfkgaa
/- THE CELL 'sum', in the pinned program and in every row, IS THE sha256 OF THE DUMP (.gsa) THAT YtgeikokmhkfkgaaProg.lean LOADS. Nothing in Lean hashes anything: it is a label: what it is worth is what the hold of that sum in a sandbox is worth. -/
noncomputable def Try.pinned : Pinned := { name := "ytgeikokmhkfkgaa", sum := "b79601c9775cd7bff4c87cdc9995cccb1f45067db9ab82a28d68f3a02596e816", checked := Try.checked }
namespace Rows
def none {H : Type} : Left H := { results := [], args := [] }

/-- 'linesmanlaw13.MutexHolds': WHATEVER THE INPUT: true; the input reads as it did. -/
def mutexHoldsSpec : ChangeSpec := { name := "mutexHolds", fn := fun _ => fun
  | [d1, d2] => { results := [.lit (.bool true)], args := [d1, d2] }
  | _ => none }
def mutexHoldsRow : OpenClaim := { program := "ytgeikokmhkfkgaa", sum := "b79601c9775cd7bff4c87cdc9995cccb1f45067db9ab82a28d68f3a02596e816", func := "linesman/linesmanlaw13.MutexHolds", spec := "mutexHolds", apart := false }
def MutexHoldsSaid : Prop := mutexHoldsRow.holds Try.pinned (OpenSpec.ofChange mutexHoldsSpec)

/-- ITS FALSE NEIGHBOUR: 'it returns false'. Refute it at one input. -/
def mutexHoldsWrong : ChangeSpec := { name := "mutexHolds", fn := fun _ => fun
  | [d1, d2] => { results := [.lit (.bool false)], args := [d1, d2] }
  | _ => none }
def MutexHoldsWrongFalsely : Prop := mutexHoldsRow.holds Try.pinned (OpenSpec.ofChange mutexHoldsWrong)

/-- 'linesmanlaw13.MutexPlays': WHATEVER THE INPUT: true; the input reads as it did. -/
def mutexPlaysSpec : ChangeSpec := { name := "mutexPlays", fn := fun _ => fun
  | [d1, d2] => { results := [.lit (.bool true)], args := [d1, d2] }
  | _ => none }
def mutexPlaysRow : OpenClaim := { program := "ytgeikokmhkfkgaa", sum := "b79601c9775cd7bff4c87cdc9995cccb1f45067db9ab82a28d68f3a02596e816", func := "linesman/linesmanlaw13.MutexPlays", spec := "mutexPlays", inPlace := ["maps.clone"], unfollowed := true, recurses := true, apart := false }
def MutexPlaysSaid : Prop := mutexPlaysRow.holds Try.pinned (OpenSpec.ofChange mutexPlaysSpec)

/-- ITS FALSE NEIGHBOUR: 'it returns false'. Refute it at one input. -/
def mutexPlaysWrong : ChangeSpec := { name := "mutexPlays", fn := fun _ => fun
  | [d1, d2] => { results := [.lit (.bool false)], args := [d1, d2] }
  | _ => none }
def MutexPlaysWrongFalsely : Prop := mutexPlaysRow.holds Try.pinned (OpenSpec.ofChange mutexPlaysWrong)

/-- 'linesmanlaw13.MutexCopies': WHATEVER THE INPUT: true; the input reads as it did. -/
def mutexCopiesSpec : ChangeSpec := { name := "mutexCopies", fn := fun _ => fun
  | [d1, d2, d3] => { results := [.lit (.bool true)], args := [d1, d2, d3] }
  | _ => none }
def mutexCopiesRow : OpenClaim := { program := "ytgeikokmhkfkgaa", sum := "b79601c9775cd7bff4c87cdc9995cccb1f45067db9ab82a28d68f3a02596e816", func := "linesman/linesmanlaw13.MutexCopies", spec := "mutexCopies", inPlace := ["maps.clone"], unfollowed := true, recurses := true, apart := false }
def MutexCopiesSaid : Prop := mutexCopiesRow.holds Try.pinned (OpenSpec.ofChange mutexCopiesSpec)

/-- ITS FALSE NEIGHBOUR: 'it returns false'. Refute it at one input. -/
def mutexCopiesWrong : ChangeSpec := { name := "mutexCopies", fn := fun _ => fun
  | [d1, d2, d3] => { results := [.lit (.bool false)], args := [d1, d2, d3] }
  | _ => none }
def MutexCopiesWrongFalsely : Prop := mutexCopiesRow.holds Try.pinned (OpenSpec.ofChange mutexCopiesWrong)

/-- 'linesmanlaw13.MutexNone': WHATEVER THE INPUT: true; the input reads as it did. -/
def mutexNoneSpec : ChangeSpec := { name := "mutexNone", fn := fun _ => fun
  | [d1, d2] => { results := [.lit (.bool true)], args := [d1, d2] }
  | _ => none }
def mutexNoneRow : OpenClaim := { program := "ytgeikokmhkfkgaa", sum := "b79601c9775cd7bff4c87cdc9995cccb1f45067db9ab82a28d68f3a02596e816", func := "linesman/linesmanlaw13.MutexNone", spec := "mutexNone", inPlace := ["maps.clone"], unfollowed := true, recurses := true, apart := false }
def MutexNoneSaid : Prop := mutexNoneRow.holds Try.pinned (OpenSpec.ofChange mutexNoneSpec)

/-- ITS FALSE NEIGHBOUR: 'it returns false'. Refute it at one input. -/
def mutexNoneWrong : ChangeSpec := { name := "mutexNone", fn := fun _ => fun
  | [d1, d2] => { results := [.lit (.bool false)], args := [d1, d2] }
  | _ => none }
def MutexNoneWrongFalsely : Prop := mutexNoneRow.holds Try.pinned (OpenSpec.ofChange mutexNoneWrong)

/- THE SECOND FORM. 'bulk': how many values and letters a reading holds, each counted each time it is reached (what is shared counts as often as it is met; a slice's spare places count too). A statement '..UptoSaid' is the law's where the arguments, and the package variables that the reading takes, are together of bulk at most 1048576: NARROWER than '..Said'. Prove '..Said' where nothing that the law and all that it calls make is longer than what came in: it says more and counts as full. Else prove '..UptoSaid'. A law counts once. -/
mutual
def uptoBulk {H : Type} : DataW H → Nat
  | .lit (.string bytes) => bytes.length + 1
  | .lit _ => 1
  | .nil => 1
  | .ptr d => uptoBulk d + 1
  | .slice elems spare => uptoBulkAll elems + uptoBulkAll spare + 1
  | .agg parts => uptoBulkAll parts + 1
  | .iface _ d => uptoBulk d + 1
  | .map entries => uptoBulkEntries entries + 1
  | .held _ => 1
def uptoBulkAll {H : Type} : List (DataW H) → Nat
  | [] => 0
  | d :: r => uptoBulk d + uptoBulkAll r
def uptoBulkEntries {H : Type} : List (Lit × DataW H) → Nat
  | [] => 0
  | x :: r => uptoBulkEntry x + uptoBulkEntries r
def uptoBulkEntry {H : Type} : Lit × DataW H → Nat
  | (.string bytes, d) => bytes.length + uptoBulk d + 1
  | (_, d) => uptoBulk d + 1
 end
def uptoSmall : (H : Type) → List (DataW H) → Bool := fun _ ds => decide (uptoBulkAll ds ≤ 1048576)
def OpenSpec.upto (s : _root_.Go.ChangeSpec) : _root_.Go.OpenSpec := { _root_.Go.OpenSpec.ofChange s with cond := some uptoSmall }

/-- 'linesmanlaw13.MutexHolds', WHERE WHAT IT READS IS OF BULK AT MOST 1048576: true; the input reads as it did. -/
def mutexHoldsUptoRow : OpenClaim := { program := "ytgeikokmhkfkgaa", sum := "b79601c9775cd7bff4c87cdc9995cccb1f45067db9ab82a28d68f3a02596e816", func := "linesman/linesmanlaw13.MutexHolds", spec := "mutexHolds", apart := false, narrowed := true }
def MutexHoldsUptoSaid : Prop := mutexHoldsUptoRow.holds Try.pinned (OpenSpec.upto mutexHoldsSpec)

/-- 'linesmanlaw13.MutexPlays', WHERE WHAT IT READS IS OF BULK AT MOST 1048576: true; the input reads as it did. -/
def mutexPlaysUptoRow : OpenClaim := { program := "ytgeikokmhkfkgaa", sum := "b79601c9775cd7bff4c87cdc9995cccb1f45067db9ab82a28d68f3a02596e816", func := "linesman/linesmanlaw13.MutexPlays", spec := "mutexPlays", inPlace := ["maps.clone"], unfollowed := true, recurses := true, apart := false, narrowed := true }
def MutexPlaysUptoSaid : Prop := mutexPlaysUptoRow.holds Try.pinned (OpenSpec.upto mutexPlaysSpec)

/-- 'linesmanlaw13.MutexCopies', WHERE WHAT IT READS IS OF BULK AT MOST 1048576: true; the input reads as it did. -/
def mutexCopiesUptoRow : OpenClaim := { program := "ytgeikokmhkfkgaa", sum := "b79601c9775cd7bff4c87cdc9995cccb1f45067db9ab82a28d68f3a02596e816", func := "linesman/linesmanlaw13.MutexCopies", spec := "mutexCopies", inPlace := ["maps.clone"], unfollowed := true, recurses := true, apart := false, narrowed := true }
def MutexCopiesUptoSaid : Prop := mutexCopiesUptoRow.holds Try.pinned (OpenSpec.upto mutexCopiesSpec)

/-- 'linesmanlaw13.MutexNone', WHERE WHAT IT READS IS OF BULK AT MOST 1048576: true; the input reads as it did. -/
def mutexNoneUptoRow : OpenClaim := { program := "ytgeikokmhkfkgaa", sum := "b79601c9775cd7bff4c87cdc9995cccb1f45067db9ab82a28d68f3a02596e816", func := "linesman/linesmanlaw13.MutexNone", spec := "mutexNone", inPlace := ["maps.clone"], unfollowed := true, recurses := true, apart := false, narrowed := true }
def MutexNoneUptoSaid : Prop := mutexNoneUptoRow.holds Try.pinned (OpenSpec.upto mutexNoneSpec)

end Rows
end Go.Proofs.Ytgeikokmhkfkgaa
