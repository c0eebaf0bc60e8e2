/-
  No cell of these rows narrows 'for every input' (looked for: loops, veiled, ifaces, maps, wideKeys, modest, calm, conditions, laid).
  DERIVED. THE GIVEN ROWS OF THIS SEAT. 4 by the template 'for every input the law returns true; each argument reads behind the call as it read before'; 0 by the template 'total and deterministic' (their statements: YtgkhaoogfpnbbaaTotals.lean).
  GIVEN WITH THE SEED: the statements are not yours to turn. If you find one false, say at which input.
  Laid BY PROGRAM, IN A SANDBOX (cutbox-rows.mjs): the forced cells as the released guide's own fill.sh prints them over the translation 450396d3dee98f6c… (all of the seat's roots in one cut). By AI agents, Wed Nov 11 2026. No macro, syntax, notation, axiom, sorry.
-/
import Derived.Test.YtgkhaoogfpnbbaaChecked
import GoSem.Claim
import GoSem.ClaimJoined
import GoSem.ClaimMapViews
import Derived.JoinedTies
import Derived.KernelRfl
namespace Go.Proofs.Ytgkhaoogfpnbbaa
/- THE CELL 'sum', in the pinned program and in every row, IS THE sha256 OF THE DUMP (.gsa) THAT YtgkhaoogfpnbbaaProg.lean LOADS. Nothing in Lean hashes anything: it is a label: what it is worth is what the hold of that sum in a sandbox is worth. -/
noncomputable def Try.pinned : Pinned := { name := "ytgkhaoogfpnbbaa", sum := "450396d3dee98f6cb22f971578ae64e98f9f17d49d7ea7989265a6b5432cbad6", checked := Try.checked }
namespace Rows
def none {H : Type} : Left H := { results := [], args := [] }

/-- 'linesmanlaw27.ReportOf': WHATEVER THE INPUT: true; the input reads as it did. -/
def reportOfSpec : ChangeSpec := { name := "reportOf", fn := fun _ => fun
  | [d1, d2] => { results := [.lit (.bool true)], args := [d1, d2] }
  | _ => none }
def reportOfRow : OpenClaim := { program := "ytgkhaoogfpnbbaa", sum := "450396d3dee98f6cb22f971578ae64e98f9f17d49d7ea7989265a6b5432cbad6", func := "linesman/linesmanlaw27.ReportOf", spec := "reportOf", unfollowed := true, recurses := true, plainKeys := false, apart := false }
def ReportOfSaid : Prop := reportOfRow.holds Try.pinned (OpenSpec.ofChange reportOfSpec)

/-- ITS FALSE NEIGHBOUR: 'it returns false'. Refute it at one input. -/
def reportOfWrong : ChangeSpec := { name := "reportOf", fn := fun _ => fun
  | [d1, d2] => { results := [.lit (.bool false)], args := [d1, d2] }
  | _ => none }
def ReportOfWrongFalsely : Prop := reportOfRow.holds Try.pinned (OpenSpec.ofChange reportOfWrong)

/-- 'linesmanlaw27.ReportHolds': WHATEVER THE INPUT: true; the input reads as it did. -/
def reportHoldsSpec : ChangeSpec := { name := "reportHolds", fn := fun _ => fun
  | [d1, d2] => { results := [.lit (.bool true)], args := [d1, d2] }
  | _ => none }
def reportHoldsRow : OpenClaim := { program := "ytgkhaoogfpnbbaa", sum := "450396d3dee98f6cb22f971578ae64e98f9f17d49d7ea7989265a6b5432cbad6", func := "linesman/linesmanlaw27.ReportHolds", spec := "reportHolds", unfollowed := true, recurses := true, plainKeys := false, apart := false }
def ReportHoldsSaid : Prop := reportHoldsRow.holds Try.pinned (OpenSpec.ofChange reportHoldsSpec)

/-- ITS FALSE NEIGHBOUR: 'it returns false'. Refute it at one input. -/
def reportHoldsWrong : ChangeSpec := { name := "reportHolds", fn := fun _ => fun
  | [d1, d2] => { results := [.lit (.bool false)], args := [d1, d2] }
  | _ => none }
def ReportHoldsWrongFalsely : Prop := reportHoldsRow.holds Try.pinned (OpenSpec.ofChange reportHoldsWrong)

/-- 'linesmanlaw27.ReportTakes': WHATEVER THE INPUT: true; the input reads as it did. -/
def reportTakesSpec : ChangeSpec := { name := "reportTakes", fn := fun _ => fun
  | [d1, d2] => { results := [.lit (.bool true)], args := [d1, d2] }
  | _ => none }
def reportTakesRow : OpenClaim := { program := "ytgkhaoogfpnbbaa", sum := "450396d3dee98f6cb22f971578ae64e98f9f17d49d7ea7989265a6b5432cbad6", func := "linesman/linesmanlaw27.ReportTakes", spec := "reportTakes", unfollowed := true, recurses := true, plainKeys := false, apart := false }
def ReportTakesSaid : Prop := reportTakesRow.holds Try.pinned (OpenSpec.ofChange reportTakesSpec)

/-- ITS FALSE NEIGHBOUR: 'it returns false'. Refute it at one input. -/
def reportTakesWrong : ChangeSpec := { name := "reportTakes", fn := fun _ => fun
  | [d1, d2] => { results := [.lit (.bool false)], args := [d1, d2] }
  | _ => none }
def ReportTakesWrongFalsely : Prop := reportTakesRow.holds Try.pinned (OpenSpec.ofChange reportTakesWrong)

/-- 'linesmanlaw27.ReportCopies': WHATEVER THE INPUT: true; the input reads as it did. -/
def reportCopiesSpec : ChangeSpec := { name := "reportCopies", fn := fun _ => fun
  | [d1, d2, d3] => { results := [.lit (.bool true)], args := [d1, d2, d3] }
  | _ => none }
def reportCopiesRow : OpenClaim := { program := "ytgkhaoogfpnbbaa", sum := "450396d3dee98f6cb22f971578ae64e98f9f17d49d7ea7989265a6b5432cbad6", func := "linesman/linesmanlaw27.ReportCopies", spec := "reportCopies", unfollowed := true, recurses := true, plainKeys := false, apart := false }
def ReportCopiesSaid : Prop := reportCopiesRow.holds Try.pinned (OpenSpec.ofChange reportCopiesSpec)

/-- ITS FALSE NEIGHBOUR: 'it returns false'. Refute it at one input. -/
def reportCopiesWrong : ChangeSpec := { name := "reportCopies", fn := fun _ => fun
  | [d1, d2, d3] => { results := [.lit (.bool false)], args := [d1, d2, d3] }
  | _ => none }
def ReportCopiesWrongFalsely : Prop := reportCopiesRow.holds Try.pinned (OpenSpec.ofChange reportCopiesWrong)

/- THE SECOND FORM. 'bulk': how many values and letters a reading holds, each counted each time it is reached (what is shared counts as often as it is met; a slice's spare places count too). A statement '..UptoSaid' is the law's where the arguments, and the package variables that the reading takes, are together of bulk at most 1048576: NARROWER than '..Said'. Prove '..Said' where nothing that the law and all that it calls make is longer than what came in: it says more and counts as full. Else prove '..UptoSaid'. A law counts once. -/
mutual
def uptoBulk {H : Type} : DataW H → Nat
  | .lit (.string bytes) => bytes.length + 1
  | .lit _ => 1
  | .nil => 1
  | .ptr d => uptoBulk d + 1
  | .slice elems spare => uptoBulkAll elems + uptoBulkAll spare + 1
  | .agg parts => uptoBulkAll parts + 1
  | .iface _ d => uptoBulk d + 1
  | .map entries => uptoBulkEntries entries + 1
  | .held _ => 1
def uptoBulkAll {H : Type} : List (DataW H) → Nat
  | [] => 0
  | d :: r => uptoBulk d + uptoBulkAll r
def uptoBulkEntries {H : Type} : List (Lit × DataW H) → Nat
  | [] => 0
  | x :: r => uptoBulkEntry x + uptoBulkEntries r
def uptoBulkEntry {H : Type} : Lit × DataW H → Nat
  | (.string bytes, d) => bytes.length + uptoBulk d + 1
  | (_, d) => uptoBulk d + 1
 end
def uptoSmall : (H : Type) → List (DataW H) → Bool := fun _ ds => decide (uptoBulkAll ds ≤ 1048576)
def OpenSpec.upto (s : _root_.Go.ChangeSpec) : _root_.Go.OpenSpec := { _root_.Go.OpenSpec.ofChange s with cond := some uptoSmall }

/-- 'linesmanlaw27.ReportOf', WHERE WHAT IT READS IS OF BULK AT MOST 1048576: true; the input reads as it did. -/
def reportOfUptoRow : OpenClaim := { program := "ytgkhaoogfpnbbaa", sum := "450396d3dee98f6cb22f971578ae64e98f9f17d49d7ea7989265a6b5432cbad6", func := "linesman/linesmanlaw27.ReportOf", spec := "reportOf", unfollowed := true, recurses := true, plainKeys := false, apart := false, narrowed := true }
def ReportOfUptoSaid : Prop := reportOfUptoRow.holds Try.pinned (OpenSpec.upto reportOfSpec)

/-- 'linesmanlaw27.ReportHolds', WHERE WHAT IT READS IS OF BULK AT MOST 1048576: true; the input reads as it did. -/
def reportHoldsUptoRow : OpenClaim := { program := "ytgkhaoogfpnbbaa", sum := "450396d3dee98f6cb22f971578ae64e98f9f17d49d7ea7989265a6b5432cbad6", func := "linesman/linesmanlaw27.ReportHolds", spec := "reportHolds", unfollowed := true, recurses := true, plainKeys := false, apart := false, narrowed := true }
def ReportHoldsUptoSaid : Prop := reportHoldsUptoRow.holds Try.pinned (OpenSpec.upto reportHoldsSpec)

/-- 'linesmanlaw27.ReportTakes', WHERE WHAT IT READS IS OF BULK AT MOST 1048576: true; the input reads as it did. -/
def reportTakesUptoRow : OpenClaim := { program := "ytgkhaoogfpnbbaa", sum := "450396d3dee98f6cb22f971578ae64e98f9f17d49d7ea7989265a6b5432cbad6", func := "linesman/linesmanlaw27.ReportTakes", spec := "reportTakes", unfollowed := true, recurses := true, plainKeys := false, apart := false, narrowed := true }
def ReportTakesUptoSaid : Prop := reportTakesUptoRow.holds Try.pinned (OpenSpec.upto reportTakesSpec)

/-- 'linesmanlaw27.ReportCopies', WHERE WHAT IT READS IS OF BULK AT MOST 1048576: true; the input reads as it did. -/
def reportCopiesUptoRow : OpenClaim := { program := "ytgkhaoogfpnbbaa", sum := "450396d3dee98f6cb22f971578ae64e98f9f17d49d7ea7989265a6b5432cbad6", func := "linesman/linesmanlaw27.ReportCopies", spec := "reportCopies", unfollowed := true, recurses := true, plainKeys := false, apart := false, narrowed := true }
def ReportCopiesUptoSaid : Prop := reportCopiesUptoRow.holds Try.pinned (OpenSpec.upto reportCopiesSpec)

end Rows
end Go.Proofs.Ytgkhaoogfpnbbaa
