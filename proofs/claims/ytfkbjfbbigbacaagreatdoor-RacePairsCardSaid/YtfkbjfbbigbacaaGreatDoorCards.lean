/-
  DERIVED. GIVEN WITH THE SEED: THE CARDS: each row of YtfkbjfbbigbacaaGreatDoorRows.lean that lists a variable, with what it lists TIED to the program's text (the seventh form; the later family's looks); each row that meets fmt, with fmt's text TOLD by the authors' own Lean function (tested against real Go, not proved from fmt's source: count such statements apart). THE CARD IS WHAT COUNTS. Prove the row's statement (the work); the ties are given (YtfkbjfbbigbacaaGreatDoorTie.lean); close each card by the builder's one call (the guide's Derived/Test/ToyasCard.lean, 'card_holds'). Laid BY PROGRAM, IN A SANDBOX (cutbox-door.mjs). By AI agents, Wed Nov 11 2026. No macro, syntax, notation, axiom, sorry.
-/
import Derived.Test.YtfkbjfbbigbacaaGreatDoorRows
import GoSem.ClaimSeven
namespace Go.Proofs.YtfkbjfbbigbacaaGreatDoor
namespace Rows

/-- THE TIED CARD OF 'linesmanlaw21.RaceAll'. -/
def raceAllCard : Claim7 := { stood := { row := raceAllRow, standIns := [], harness := (true, "c54d188e408466c65abb189b5f3b6aa2c39334a530bc301a0df9b6d41b29323f"), looks := false }, kinds := [], alts := [], laidByText := true, laidKinds := [.data, .data, .data], laidTests := true, laidLooks := .later }
def RaceAllCardSaid : Prop := Claim7.holds Tryz.pinned (.plain (OpenSpec.ofChange raceAllSpec)) raceAllCard

/-- THE TIED CARD OF 'linesmanlaw21.RaceHolds'. -/
def raceHoldsCard : Claim7 := { stood := { row := raceHoldsRow, standIns := [], harness := (true, "c54d188e408466c65abb189b5f3b6aa2c39334a530bc301a0df9b6d41b29323f"), looks := false }, kinds := [], alts := [], laidByText := true, laidKinds := [.data, .data, .data], laidTests := true, laidLooks := .later }
def RaceHoldsCardSaid : Prop := Claim7.holds Tryz.pinned (.plain (OpenSpec.ofChange raceHoldsSpec)) raceHoldsCard

/-- THE TIED CARD OF 'linesmanlaw21.RaceFirst'. -/
def raceFirstCard : Claim7 := { stood := { row := raceFirstRow, standIns := [], harness := (true, "c54d188e408466c65abb189b5f3b6aa2c39334a530bc301a0df9b6d41b29323f"), looks := false }, kinds := [], alts := [], laidByText := true, laidKinds := [.data, .data, .data], laidTests := true, laidLooks := .later }
def RaceFirstCardSaid : Prop := Claim7.holds Tryz.pinned (.plain (OpenSpec.ofChange raceFirstSpec)) raceFirstCard

/-- THE TIED CARD OF 'linesmanlaw21.RaceNone'. -/
def raceNoneCard : Claim7 := { stood := { row := raceNoneRow, standIns := [], harness := (true, "c54d188e408466c65abb189b5f3b6aa2c39334a530bc301a0df9b6d41b29323f"), looks := false }, kinds := [], alts := [], laidByText := true, laidKinds := [.data, .data, .data], laidTests := true, laidLooks := .later }
def RaceNoneCardSaid : Prop := Claim7.holds Tryz.pinned (.plain (OpenSpec.ofChange raceNoneSpec)) raceNoneCard

/-- THE TIED CARD OF 'linesmanlaw21.RacePairs'. -/
def racePairsCard : Claim7 := { stood := { row := racePairsRow, standIns := [], harness := (true, "c54d188e408466c65abb189b5f3b6aa2c39334a530bc301a0df9b6d41b29323f"), looks := false }, kinds := [], alts := [], laidByText := true, laidKinds := [.data, .data, .data], laidTests := true, laidLooks := .later }
def RacePairsCardSaid : Prop := Claim7.holds Tryz.pinned (.plain (OpenSpec.ofChange racePairsSpec)) racePairsCard

/-- THE SECOND FORM's CARD OF 'linesmanlaw21.RaceAll'. -/
def raceAllUptoCard : Claim7 := { stood := { row := raceAllUptoRow, standIns := [], harness := (true, "c54d188e408466c65abb189b5f3b6aa2c39334a530bc301a0df9b6d41b29323f"), looks := false }, kinds := [], alts := [], laidByText := true, laidKinds := [.data, .data, .data], laidTests := true, laidLooks := .later }
def RaceAllUptoCardSaid : Prop := Claim7.holds Tryz.pinned (.plain (OpenSpec.upto raceAllSpec)) raceAllUptoCard

/-- THE SECOND FORM's CARD OF 'linesmanlaw21.RaceHolds'. -/
def raceHoldsUptoCard : Claim7 := { stood := { row := raceHoldsUptoRow, standIns := [], harness := (true, "c54d188e408466c65abb189b5f3b6aa2c39334a530bc301a0df9b6d41b29323f"), looks := false }, kinds := [], alts := [], laidByText := true, laidKinds := [.data, .data, .data], laidTests := true, laidLooks := .later }
def RaceHoldsUptoCardSaid : Prop := Claim7.holds Tryz.pinned (.plain (OpenSpec.upto raceHoldsSpec)) raceHoldsUptoCard

/-- THE SECOND FORM's CARD OF 'linesmanlaw21.RaceFirst'. -/
def raceFirstUptoCard : Claim7 := { stood := { row := raceFirstUptoRow, standIns := [], harness := (true, "c54d188e408466c65abb189b5f3b6aa2c39334a530bc301a0df9b6d41b29323f"), looks := false }, kinds := [], alts := [], laidByText := true, laidKinds := [.data, .data, .data], laidTests := true, laidLooks := .later }
def RaceFirstUptoCardSaid : Prop := Claim7.holds Tryz.pinned (.plain (OpenSpec.upto raceFirstSpec)) raceFirstUptoCard

/-- THE SECOND FORM's CARD OF 'linesmanlaw21.RaceNone'. -/
def raceNoneUptoCard : Claim7 := { stood := { row := raceNoneUptoRow, standIns := [], harness := (true, "c54d188e408466c65abb189b5f3b6aa2c39334a530bc301a0df9b6d41b29323f"), looks := false }, kinds := [], alts := [], laidByText := true, laidKinds := [.data, .data, .data], laidTests := true, laidLooks := .later }
def RaceNoneUptoCardSaid : Prop := Claim7.holds Tryz.pinned (.plain (OpenSpec.upto raceNoneSpec)) raceNoneUptoCard

/-- THE SECOND FORM's CARD OF 'linesmanlaw21.RacePairs'. -/
def racePairsUptoCard : Claim7 := { stood := { row := racePairsUptoRow, standIns := [], harness := (true, "c54d188e408466c65abb189b5f3b6aa2c39334a530bc301a0df9b6d41b29323f"), looks := false }, kinds := [], alts := [], laidByText := true, laidKinds := [.data, .data, .data], laidTests := true, laidLooks := .later }
def RacePairsUptoCardSaid : Prop := Claim7.holds Tryz.pinned (.plain (OpenSpec.upto racePairsSpec)) racePairsUptoCard
end Rows
end Go.Proofs.YtfkbjfbbigbacaaGreatDoor
