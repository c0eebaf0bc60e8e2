/-
  DERIVED. GIVEN WITH THE SEED: THE CARDS: each row of YtoakhhilmnfpkaaGreatDoorRows.lean that lists a variable, with what it lists TIED to the program's text (the seventh form; the later family's looks); each row that meets fmt, with fmt's text TOLD by the authors' own Lean function (tested against real Go, not proved from fmt's source: count such statements apart). THE CARD IS WHAT COUNTS. Prove the row's statement (the work); the ties are given (YtoakhhilmnfpkaaGreatDoorTie.lean); close each card by the builder's one call (the guide's Derived/Test/ToyasCard.lean, 'card_holds'). Laid BY PROGRAM, IN A SANDBOX (cutbox-door.mjs). By AI agents, Wed Nov 11 2026. No macro, syntax, notation, axiom, sorry.
-/
import Derived.Test.YtoakhhilmnfpkaaGreatDoorRows
import GoSem.ClaimSeven
namespace Go.Proofs.YtoakhhilmnfpkaaGreatDoor
namespace Rows

/-- THE TIED CARD OF 'linesmanlaw26.VectorsHold'. -/
def vectorsHoldCard : Claim7 := { stood := { row := vectorsHoldRow, standIns := [], harness := (true, "8685bb28b712717265b21024f5bc8b359968dba4573e745b4ce2a40c9d69aa20"), looks := true }, kinds := [], alts := [], laidByText := true, laidKinds := [.data, .data, .data], laidTests := true, laidLooks := .later }
def VectorsHoldCardSaid : Prop := Claim7.holds Tryz.pinned (.plain (OpenSpec.ofChange vectorsHoldSpec)) vectorsHoldCard

/-- THE TIED CARD OF 'linesmanlaw26.VectorsSame'. -/
def vectorsSameCard : Claim7 := { stood := { row := vectorsSameRow, standIns := [], harness := (true, "8685bb28b712717265b21024f5bc8b359968dba4573e745b4ce2a40c9d69aa20"), looks := true }, kinds := [], alts := [], laidByText := true, laidKinds := [.data, .data, .data], laidTests := true, laidLooks := .later }
def VectorsSameCardSaid : Prop := Claim7.holds Tryz.pinned (.plain (OpenSpec.ofChange vectorsSameSpec)) vectorsSameCard

/-- THE TIED CARD OF 'linesmanlaw26.VectorsCome'. -/
def vectorsComeCard : Claim7 := { stood := { row := vectorsComeRow, standIns := [], harness := (true, "8685bb28b712717265b21024f5bc8b359968dba4573e745b4ce2a40c9d69aa20"), looks := true }, kinds := [], alts := [], laidByText := true, laidKinds := [.data, .data, .data], laidTests := true, laidLooks := .later }
def VectorsComeCardSaid : Prop := Claim7.holds Tryz.pinned (.plain (OpenSpec.ofChange vectorsComeSpec)) vectorsComeCard

/-- THE TIED CARD OF 'linesmanlaw26.VectorsCopies'. -/
def vectorsCopiesCard : Claim7 := { stood := { row := vectorsCopiesRow, standIns := [], harness := (true, "8685bb28b712717265b21024f5bc8b359968dba4573e745b4ce2a40c9d69aa20"), looks := true }, kinds := [], alts := [], laidByText := true, laidKinds := [.data, .data, .data], laidTests := true, laidLooks := .later }
def VectorsCopiesCardSaid : Prop := Claim7.holds Tryz.pinned (.plain (OpenSpec.ofChange vectorsCopiesSpec)) vectorsCopiesCard

/-- THE TIED CARD OF 'linesmanlaw26.VectorsDetect'. -/
def vectorsDetectCard : Claim7 := { stood := { row := vectorsDetectRow, standIns := [], harness := (true, "8685bb28b712717265b21024f5bc8b359968dba4573e745b4ce2a40c9d69aa20"), looks := true }, kinds := [], alts := [], laidByText := true, laidKinds := [.data, .data, .data], laidTests := true, laidLooks := .later }
def VectorsDetectCardSaid : Prop := Claim7.holds Tryz.pinned (.plain (OpenSpec.ofChange vectorsDetectSpec)) vectorsDetectCard

/-- THE SECOND FORM's CARD OF 'linesmanlaw26.VectorsHold'. -/
def vectorsHoldUptoCard : Claim7 := { stood := { row := vectorsHoldUptoRow, standIns := [], harness := (true, "8685bb28b712717265b21024f5bc8b359968dba4573e745b4ce2a40c9d69aa20"), looks := true }, kinds := [], alts := [], laidByText := true, laidKinds := [.data, .data, .data], laidTests := true, laidLooks := .later }
def VectorsHoldUptoCardSaid : Prop := Claim7.holds Tryz.pinned (.plain (OpenSpec.upto vectorsHoldSpec)) vectorsHoldUptoCard

/-- THE SECOND FORM's CARD OF 'linesmanlaw26.VectorsSame'. -/
def vectorsSameUptoCard : Claim7 := { stood := { row := vectorsSameUptoRow, standIns := [], harness := (true, "8685bb28b712717265b21024f5bc8b359968dba4573e745b4ce2a40c9d69aa20"), looks := true }, kinds := [], alts := [], laidByText := true, laidKinds := [.data, .data, .data], laidTests := true, laidLooks := .later }
def VectorsSameUptoCardSaid : Prop := Claim7.holds Tryz.pinned (.plain (OpenSpec.upto vectorsSameSpec)) vectorsSameUptoCard

/-- THE SECOND FORM's CARD OF 'linesmanlaw26.VectorsCome'. -/
def vectorsComeUptoCard : Claim7 := { stood := { row := vectorsComeUptoRow, standIns := [], harness := (true, "8685bb28b712717265b21024f5bc8b359968dba4573e745b4ce2a40c9d69aa20"), looks := true }, kinds := [], alts := [], laidByText := true, laidKinds := [.data, .data, .data], laidTests := true, laidLooks := .later }
def VectorsComeUptoCardSaid : Prop := Claim7.holds Tryz.pinned (.plain (OpenSpec.upto vectorsComeSpec)) vectorsComeUptoCard

/-- THE SECOND FORM's CARD OF 'linesmanlaw26.VectorsCopies'. -/
def vectorsCopiesUptoCard : Claim7 := { stood := { row := vectorsCopiesUptoRow, standIns := [], harness := (true, "8685bb28b712717265b21024f5bc8b359968dba4573e745b4ce2a40c9d69aa20"), looks := true }, kinds := [], alts := [], laidByText := true, laidKinds := [.data, .data, .data], laidTests := true, laidLooks := .later }
def VectorsCopiesUptoCardSaid : Prop := Claim7.holds Tryz.pinned (.plain (OpenSpec.upto vectorsCopiesSpec)) vectorsCopiesUptoCard

/-- THE SECOND FORM's CARD OF 'linesmanlaw26.VectorsDetect'. -/
def vectorsDetectUptoCard : Claim7 := { stood := { row := vectorsDetectUptoRow, standIns := [], harness := (true, "8685bb28b712717265b21024f5bc8b359968dba4573e745b4ce2a40c9d69aa20"), looks := true }, kinds := [], alts := [], laidByText := true, laidKinds := [.data, .data, .data], laidTests := true, laidLooks := .later }
def VectorsDetectUptoCardSaid : Prop := Claim7.holds Tryz.pinned (.plain (OpenSpec.upto vectorsDetectSpec)) vectorsDetectUptoCard
end Rows
end Go.Proofs.YtoakhhilmnfpkaaGreatDoor
