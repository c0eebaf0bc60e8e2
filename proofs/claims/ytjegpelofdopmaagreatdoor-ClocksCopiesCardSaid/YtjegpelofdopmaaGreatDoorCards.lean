/-
  DERIVED. GIVEN WITH THE SEED: THE CARDS: each row of YtjegpelofdopmaaGreatDoorRows.lean that lists a variable, with what it lists TIED to the program's text (the seventh form; the later family's looks); each row that meets fmt, with fmt's text TOLD by the authors' own Lean function (tested against real Go, not proved from fmt's source: count such statements apart). THE CARD IS WHAT COUNTS. Prove the row's statement (the work); the ties are given (YtjegpelofdopmaaGreatDoorTie.lean); close each card by the builder's one call (the guide's Derived/Test/ToyasCard.lean, 'card_holds'). Laid BY PROGRAM, IN A SANDBOX (cutbox-door.mjs). By AI agents, Wed Nov 11 2026. No macro, syntax, notation, axiom, sorry.
-/
import Derived.Test.YtjegpelofdopmaaGreatDoorRows
import GoSem.ClaimSeven
namespace Go.Proofs.YtjegpelofdopmaaGreatDoor
namespace Rows

/-- THE TIED CARD OF 'linesmanlaw24.ClocksHolds'. -/
def clocksHoldsCard : Claim7 := { stood := { row := clocksHoldsRow, standIns := [], harness := (true, "9b9d6babbb0497ad925660458d0ed5586b767cac9f004223a8695fe1ef023aba"), looks := true }, kinds := [], alts := [], laidByText := true, laidKinds := [.data, .data, .data], laidTests := true, laidLooks := .later }
def ClocksHoldsCardSaid : Prop := Claim7.holds Tryz.pinned (.plain (OpenSpec.ofChange clocksHoldsSpec)) clocksHoldsCard

/-- THE TIED CARD OF 'linesmanlaw24.ClocksCome'. -/
def clocksComeCard : Claim7 := { stood := { row := clocksComeRow, standIns := [], harness := (true, "9b9d6babbb0497ad925660458d0ed5586b767cac9f004223a8695fe1ef023aba"), looks := true }, kinds := [], alts := [], laidByText := true, laidKinds := [.data, .data, .data], laidTests := true, laidLooks := .later }
def ClocksComeCardSaid : Prop := Claim7.holds Tryz.pinned (.plain (OpenSpec.ofChange clocksComeSpec)) clocksComeCard

/-- THE TIED CARD OF 'linesmanlaw24.ClocksAll'. -/
def clocksAllCard : Claim7 := { stood := { row := clocksAllRow, standIns := [], harness := (true, "9b9d6babbb0497ad925660458d0ed5586b767cac9f004223a8695fe1ef023aba"), looks := true }, kinds := [], alts := [], laidByText := true, laidKinds := [.data, .data, .data], laidTests := true, laidLooks := .later }
def ClocksAllCardSaid : Prop := Claim7.holds Tryz.pinned (.plain (OpenSpec.ofChange clocksAllSpec)) clocksAllCard

/-- THE TIED CARD OF 'linesmanlaw24.ClocksCopies'. -/
def clocksCopiesCard : Claim7 := { stood := { row := clocksCopiesRow, standIns := [], harness := (true, "9b9d6babbb0497ad925660458d0ed5586b767cac9f004223a8695fe1ef023aba"), looks := true }, kinds := [], alts := [], laidByText := true, laidKinds := [.data, .data, .data], laidTests := true, laidLooks := .later }
def ClocksCopiesCardSaid : Prop := Claim7.holds Tryz.pinned (.plain (OpenSpec.ofChange clocksCopiesSpec)) clocksCopiesCard

/-- THE SECOND FORM's CARD OF 'linesmanlaw24.ClocksHolds'. -/
def clocksHoldsUptoCard : Claim7 := { stood := { row := clocksHoldsUptoRow, standIns := [], harness := (true, "9b9d6babbb0497ad925660458d0ed5586b767cac9f004223a8695fe1ef023aba"), looks := true }, kinds := [], alts := [], laidByText := true, laidKinds := [.data, .data, .data], laidTests := true, laidLooks := .later }
def ClocksHoldsUptoCardSaid : Prop := Claim7.holds Tryz.pinned (.plain (OpenSpec.upto clocksHoldsSpec)) clocksHoldsUptoCard

/-- THE SECOND FORM's CARD OF 'linesmanlaw24.ClocksCome'. -/
def clocksComeUptoCard : Claim7 := { stood := { row := clocksComeUptoRow, standIns := [], harness := (true, "9b9d6babbb0497ad925660458d0ed5586b767cac9f004223a8695fe1ef023aba"), looks := true }, kinds := [], alts := [], laidByText := true, laidKinds := [.data, .data, .data], laidTests := true, laidLooks := .later }
def ClocksComeUptoCardSaid : Prop := Claim7.holds Tryz.pinned (.plain (OpenSpec.upto clocksComeSpec)) clocksComeUptoCard

/-- THE SECOND FORM's CARD OF 'linesmanlaw24.ClocksAll'. -/
def clocksAllUptoCard : Claim7 := { stood := { row := clocksAllUptoRow, standIns := [], harness := (true, "9b9d6babbb0497ad925660458d0ed5586b767cac9f004223a8695fe1ef023aba"), looks := true }, kinds := [], alts := [], laidByText := true, laidKinds := [.data, .data, .data], laidTests := true, laidLooks := .later }
def ClocksAllUptoCardSaid : Prop := Claim7.holds Tryz.pinned (.plain (OpenSpec.upto clocksAllSpec)) clocksAllUptoCard

/-- THE SECOND FORM's CARD OF 'linesmanlaw24.ClocksCopies'. -/
def clocksCopiesUptoCard : Claim7 := { stood := { row := clocksCopiesUptoRow, standIns := [], harness := (true, "9b9d6babbb0497ad925660458d0ed5586b767cac9f004223a8695fe1ef023aba"), looks := true }, kinds := [], alts := [], laidByText := true, laidKinds := [.data, .data, .data], laidTests := true, laidLooks := .later }
def ClocksCopiesUptoCardSaid : Prop := Claim7.holds Tryz.pinned (.plain (OpenSpec.upto clocksCopiesSpec)) clocksCopiesUptoCard
end Rows
end Go.Proofs.YtjegpelofdopmaaGreatDoor
