/-
  DERIVED. GIVEN WITH THE SEED: THE CARDS: each row of YtefmglgejjaipaaGreatDoorRows.lean that lists a variable, with what it lists TIED to the program's text (the seventh form; the later family's looks); each row that meets fmt, with fmt's text TOLD by the authors' own Lean function (tested against real Go, not proved from fmt's source: count such statements apart). THE CARD IS WHAT COUNTS. Prove the row's statement (the work); the ties are given (YtefmglgejjaipaaGreatDoorTie.lean); close each card by the builder's one call (the guide's Derived/Test/ToyasCard.lean, 'card_holds'). Laid BY PROGRAM, IN A SANDBOX (cutbox-door.mjs). By AI agents, Wed Nov 11 2026. No macro, syntax, notation, axiom, sorry.
-/
import Derived.Test.YtefmglgejjaipaaGreatDoorRows
import GoSem.ClaimSeven
namespace Go.Proofs.YtefmglgejjaipaaGreatDoor
namespace Rows

/-- THE TIED CARD OF 'linesmanlaw20.OrderClose'. -/
def orderCloseCard : Claim7 := { stood := { row := orderCloseRow, standIns := [], harness := (true, "289f3988fb911cf5f85000afbe4e8697cd7f04698454a1e55c5e2f2196f5a142"), looks := false }, kinds := [], alts := [], laidByText := true, laidKinds := [.data, .data, .data], laidTests := true, laidLooks := .later }
def OrderCloseCardSaid : Prop := Claim7.holds Tryz.pinned (.plain (OpenSpec.ofChange orderCloseSpec)) orderCloseCard

/-- THE TIED CARD OF 'linesmanlaw20.OrderHolds'. -/
def orderHoldsCard : Claim7 := { stood := { row := orderHoldsRow, standIns := [], harness := (true, "289f3988fb911cf5f85000afbe4e8697cd7f04698454a1e55c5e2f2196f5a142"), looks := false }, kinds := [], alts := [], laidByText := true, laidKinds := [.data, .data, .data], laidTests := true, laidLooks := .later }
def OrderHoldsCardSaid : Prop := Claim7.holds Tryz.pinned (.plain (OpenSpec.ofChange orderHoldsSpec)) orderHoldsCard

/-- THE TIED CARD OF 'linesmanlaw20.OrderAdds'. -/
def orderAddsCard : Claim7 := { stood := { row := orderAddsRow, standIns := [], harness := (true, "289f3988fb911cf5f85000afbe4e8697cd7f04698454a1e55c5e2f2196f5a142"), looks := false }, kinds := [], alts := [], laidByText := true, laidKinds := [.data, .data, .data], laidTests := true, laidLooks := .later }
def OrderAddsCardSaid : Prop := Claim7.holds Tryz.pinned (.plain (OpenSpec.ofChange orderAddsSpec)) orderAddsCard

/-- THE TIED CARD OF 'linesmanlaw20.OrderTells'. -/
def orderTellsCard : Claim7 := { stood := { row := orderTellsRow, standIns := [], harness := (true, "289f3988fb911cf5f85000afbe4e8697cd7f04698454a1e55c5e2f2196f5a142"), looks := false }, kinds := [], alts := [], laidByText := true, laidKinds := [.data, .data, .data], laidTests := true, laidLooks := .later }
def OrderTellsCardSaid : Prop := Claim7.holds Tryz.pinned (.plain (OpenSpec.ofChange orderTellsSpec)) orderTellsCard

/-- THE SECOND FORM's CARD OF 'linesmanlaw20.OrderClose'. -/
def orderCloseUptoCard : Claim7 := { stood := { row := orderCloseUptoRow, standIns := [], harness := (true, "289f3988fb911cf5f85000afbe4e8697cd7f04698454a1e55c5e2f2196f5a142"), looks := false }, kinds := [], alts := [], laidByText := true, laidKinds := [.data, .data, .data], laidTests := true, laidLooks := .later }
def OrderCloseUptoCardSaid : Prop := Claim7.holds Tryz.pinned (.plain (OpenSpec.upto orderCloseSpec)) orderCloseUptoCard

/-- THE SECOND FORM's CARD OF 'linesmanlaw20.OrderHolds'. -/
def orderHoldsUptoCard : Claim7 := { stood := { row := orderHoldsUptoRow, standIns := [], harness := (true, "289f3988fb911cf5f85000afbe4e8697cd7f04698454a1e55c5e2f2196f5a142"), looks := false }, kinds := [], alts := [], laidByText := true, laidKinds := [.data, .data, .data], laidTests := true, laidLooks := .later }
def OrderHoldsUptoCardSaid : Prop := Claim7.holds Tryz.pinned (.plain (OpenSpec.upto orderHoldsSpec)) orderHoldsUptoCard

/-- THE SECOND FORM's CARD OF 'linesmanlaw20.OrderAdds'. -/
def orderAddsUptoCard : Claim7 := { stood := { row := orderAddsUptoRow, standIns := [], harness := (true, "289f3988fb911cf5f85000afbe4e8697cd7f04698454a1e55c5e2f2196f5a142"), looks := false }, kinds := [], alts := [], laidByText := true, laidKinds := [.data, .data, .data], laidTests := true, laidLooks := .later }
def OrderAddsUptoCardSaid : Prop := Claim7.holds Tryz.pinned (.plain (OpenSpec.upto orderAddsSpec)) orderAddsUptoCard

/-- THE SECOND FORM's CARD OF 'linesmanlaw20.OrderTells'. -/
def orderTellsUptoCard : Claim7 := { stood := { row := orderTellsUptoRow, standIns := [], harness := (true, "289f3988fb911cf5f85000afbe4e8697cd7f04698454a1e55c5e2f2196f5a142"), looks := false }, kinds := [], alts := [], laidByText := true, laidKinds := [.data, .data, .data], laidTests := true, laidLooks := .later }
def OrderTellsUptoCardSaid : Prop := Claim7.holds Tryz.pinned (.plain (OpenSpec.upto orderTellsSpec)) orderTellsUptoCard
end Rows
end Go.Proofs.YtefmglgejjaipaaGreatDoor
