/-
  DERIVED. GIVEN WITH THE SEED: THE CARDS: each row of YtobpdobneocckaaGreatDoorRows.lean that lists a variable, with what it lists TIED to the program's text (the seventh form; the later family's looks); each row that meets fmt, with fmt's text TOLD by the authors' own Lean function (tested against real Go, not proved from fmt's source: count such statements apart). THE CARD IS WHAT COUNTS. Prove the row's statement (the work); the ties are given (YtobpdobneocckaaGreatDoorTie.lean); close each card by the builder's one call (the guide's Derived/Test/ToyasCard.lean, 'card_holds'). Laid BY PROGRAM, IN A SANDBOX (cutbox-door.mjs). By AI agents, Wed Nov 11 2026. No macro, syntax, notation, axiom, sorry.
-/
import Derived.Test.YtobpdobneocckaaGreatDoorRows
import GoSem.ClaimSeven
namespace Go.Proofs.YtobpdobneocckaaGreatDoor
namespace Rows

/-- THE TIED CARD OF 'limitrophelaw01.TreatyReadings'. -/
def treatyReadingsCard : Claim7 := { stood := { row := treatyReadingsRow, standIns := [], harness := (true, "8dc937f7717a1616cc268aaba1fb46e377bba96151db2478db395e9102b4b80f"), looks := false }, kinds := [], alts := [], laidByText := true, laidKinds := [.data, .data, .data], laidTests := true, laidLooks := .later }
def TreatyReadingsCardSaid : Prop := Claim7.holds Tryz.pinned (.plain (OpenSpec.ofChange treatyReadingsSpec)) treatyReadingsCard

/-- THE TIED CARD OF 'limitrophelaw01.TreatyAgreed'. -/
def treatyAgreedCard : Claim7 := { stood := { row := treatyAgreedRow, standIns := [], harness := (true, "8dc937f7717a1616cc268aaba1fb46e377bba96151db2478db395e9102b4b80f"), looks := false }, kinds := [], alts := [], laidByText := true, laidKinds := [.data, .data, .data], laidTests := true, laidLooks := .later }
def TreatyAgreedCardSaid : Prop := Claim7.holds Tryz.pinned (.plain (OpenSpec.ofChange treatyAgreedSpec)) treatyAgreedCard

/-- THE TIED CARD OF 'limitrophelaw01.TreatyListed'. -/
def treatyListedCard : Claim7 := { stood := { row := treatyListedRow, standIns := [], harness := (true, "8dc937f7717a1616cc268aaba1fb46e377bba96151db2478db395e9102b4b80f"), looks := false }, kinds := [], alts := [], laidByText := true, laidKinds := [.data, .data, .data], laidTests := true, laidLooks := .later }
def TreatyListedCardSaid : Prop := Claim7.holds Tryz.pinned (.plain (OpenSpec.ofChange treatyListedSpec)) treatyListedCard

/-- THE TIED CARD OF 'limitrophelaw01.TreatySmall'. -/
def treatySmallCard : Claim7 := { stood := { row := treatySmallRow, standIns := [], harness := (true, "8dc937f7717a1616cc268aaba1fb46e377bba96151db2478db395e9102b4b80f"), looks := false }, kinds := [], alts := [], laidByText := true, laidKinds := [.data, .data, .data], laidTests := true, laidLooks := .later }
def TreatySmallCardSaid : Prop := Claim7.holds Tryz.pinned (.plain (OpenSpec.ofChange treatySmallSpec)) treatySmallCard

/-- THE TIED CARD OF 'limitrophelaw01.TreatyMore'. -/
def treatyMoreCard : Claim7 := { stood := { row := treatyMoreRow, standIns := [], harness := (true, "8dc937f7717a1616cc268aaba1fb46e377bba96151db2478db395e9102b4b80f"), looks := false }, kinds := [], alts := [], laidByText := true, laidKinds := [.data, .data, .data], laidTests := true, laidLooks := .later }
def TreatyMoreCardSaid : Prop := Claim7.holds Tryz.pinned (.plain (OpenSpec.ofChange treatyMoreSpec)) treatyMoreCard

/-- THE SECOND FORM's CARD OF 'limitrophelaw01.TreatyReadings'. -/
def treatyReadingsUptoCard : Claim7 := { stood := { row := treatyReadingsUptoRow, standIns := [], harness := (true, "8dc937f7717a1616cc268aaba1fb46e377bba96151db2478db395e9102b4b80f"), looks := false }, kinds := [], alts := [], laidByText := true, laidKinds := [.data, .data, .data], laidTests := true, laidLooks := .later }
def TreatyReadingsUptoCardSaid : Prop := Claim7.holds Tryz.pinned (.plain (OpenSpec.upto treatyReadingsSpec)) treatyReadingsUptoCard

/-- THE SECOND FORM's CARD OF 'limitrophelaw01.TreatyAgreed'. -/
def treatyAgreedUptoCard : Claim7 := { stood := { row := treatyAgreedUptoRow, standIns := [], harness := (true, "8dc937f7717a1616cc268aaba1fb46e377bba96151db2478db395e9102b4b80f"), looks := false }, kinds := [], alts := [], laidByText := true, laidKinds := [.data, .data, .data], laidTests := true, laidLooks := .later }
def TreatyAgreedUptoCardSaid : Prop := Claim7.holds Tryz.pinned (.plain (OpenSpec.upto treatyAgreedSpec)) treatyAgreedUptoCard

/-- THE SECOND FORM's CARD OF 'limitrophelaw01.TreatyListed'. -/
def treatyListedUptoCard : Claim7 := { stood := { row := treatyListedUptoRow, standIns := [], harness := (true, "8dc937f7717a1616cc268aaba1fb46e377bba96151db2478db395e9102b4b80f"), looks := false }, kinds := [], alts := [], laidByText := true, laidKinds := [.data, .data, .data], laidTests := true, laidLooks := .later }
def TreatyListedUptoCardSaid : Prop := Claim7.holds Tryz.pinned (.plain (OpenSpec.upto treatyListedSpec)) treatyListedUptoCard

/-- THE SECOND FORM's CARD OF 'limitrophelaw01.TreatySmall'. -/
def treatySmallUptoCard : Claim7 := { stood := { row := treatySmallUptoRow, standIns := [], harness := (true, "8dc937f7717a1616cc268aaba1fb46e377bba96151db2478db395e9102b4b80f"), looks := false }, kinds := [], alts := [], laidByText := true, laidKinds := [.data, .data, .data], laidTests := true, laidLooks := .later }
def TreatySmallUptoCardSaid : Prop := Claim7.holds Tryz.pinned (.plain (OpenSpec.upto treatySmallSpec)) treatySmallUptoCard

/-- THE SECOND FORM's CARD OF 'limitrophelaw01.TreatyMore'. -/
def treatyMoreUptoCard : Claim7 := { stood := { row := treatyMoreUptoRow, standIns := [], harness := (true, "8dc937f7717a1616cc268aaba1fb46e377bba96151db2478db395e9102b4b80f"), looks := false }, kinds := [], alts := [], laidByText := true, laidKinds := [.data, .data, .data], laidTests := true, laidLooks := .later }
def TreatyMoreUptoCardSaid : Prop := Claim7.holds Tryz.pinned (.plain (OpenSpec.upto treatyMoreSpec)) treatyMoreUptoCard
end Rows
end Go.Proofs.YtobpdobneocckaaGreatDoor
