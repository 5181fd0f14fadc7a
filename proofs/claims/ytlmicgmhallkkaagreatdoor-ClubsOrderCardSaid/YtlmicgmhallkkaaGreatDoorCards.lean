/-
  DERIVED. GIVEN WITH THE SEED: THE CARDS: each row of YtlmicgmhallkkaaGreatDoorRows.lean that lists a variable, with what it lists TIED to the program's text (the seventh form; the later family's looks); each row that meets fmt, with fmt's text TOLD by the authors' own Lean function (tested against real Go, not proved from fmt's source: count such statements apart). THE CARD IS WHAT COUNTS. Prove the row's statement (the work); the ties are given (YtlmicgmhallkkaaGreatDoorTie.lean); close each card by the builder's one call (the guide's Derived/Test/ToyasCard.lean, 'card_holds'). Laid BY PROGRAM, IN A SANDBOX (cutbox-door.mjs). By AI agents, Wed Nov 11 2026. No macro, syntax, notation, axiom, sorry.
-/
import Derived.Test.YtlmicgmhallkkaaGreatDoorRows
import GoSem.ClaimSeven
namespace Go.Proofs.YtlmicgmhallkkaaGreatDoor
namespace Rows

/-- THE TIED CARD OF 'bivouaclaw11.ClubsSettles'. -/
def clubsSettlesCard : Claim7 := { stood := { row := clubsSettlesRow, standIns := [], harness := (true, "8cac4198e5149a8bf23d558b9d71a197c315f9160eeac6ced6a08cf566295f05"), looks := false }, kinds := [], alts := [], laidByText := true, laidKinds := [.data, .data], laidTests := true, laidLooks := .later }
def ClubsSettlesCardSaid : Prop := Claim7.holds Tryz.pinned (.plain (OpenSpec.ofChange clubsSettlesSpec)) clubsSettlesCard

/-- THE TIED CARD OF 'bivouaclaw11.ClubsRaises'. -/
def clubsRaisesCard : Claim7 := { stood := { row := clubsRaisesRow, standIns := [], harness := (true, "8cac4198e5149a8bf23d558b9d71a197c315f9160eeac6ced6a08cf566295f05"), looks := false }, kinds := [], alts := [], laidByText := true, laidKinds := [.data, .data], laidTests := true, laidLooks := .later }
def ClubsRaisesCardSaid : Prop := Claim7.holds Tryz.pinned (.plain (OpenSpec.ofChange clubsRaisesSpec)) clubsRaisesCard

/-- THE TIED CARD OF 'bivouaclaw11.ClubsSettled'. -/
def clubsSettledCard : Claim7 := { stood := { row := clubsSettledRow, standIns := [], harness := (true, "8cac4198e5149a8bf23d558b9d71a197c315f9160eeac6ced6a08cf566295f05"), looks := false }, kinds := [], alts := [], laidByText := true, laidKinds := [.data, .data], laidTests := true, laidLooks := .later }
def ClubsSettledCardSaid : Prop := Claim7.holds Tryz.pinned (.plain (OpenSpec.ofChange clubsSettledSpec)) clubsSettledCard

/-- THE TIED CARD OF 'bivouaclaw11.ClubsEnough'. -/
def clubsEnoughCard : Claim7 := { stood := { row := clubsEnoughRow, standIns := [], harness := (true, "8cac4198e5149a8bf23d558b9d71a197c315f9160eeac6ced6a08cf566295f05"), looks := false }, kinds := [], alts := [], laidByText := true, laidKinds := [.data, .data], laidTests := true, laidLooks := .later }
def ClubsEnoughCardSaid : Prop := Claim7.holds Tryz.pinned (.plain (OpenSpec.ofChange clubsEnoughSpec)) clubsEnoughCard

/-- THE TIED CARD OF 'bivouaclaw11.ClubsSplits'. -/
def clubsSplitsCard : Claim7 := { stood := { row := clubsSplitsRow, standIns := [], harness := (true, "8cac4198e5149a8bf23d558b9d71a197c315f9160eeac6ced6a08cf566295f05"), looks := false }, kinds := [], alts := [], laidByText := true, laidKinds := [.data, .data], laidTests := true, laidLooks := .later }
def ClubsSplitsCardSaid : Prop := Claim7.holds Tryz.pinned (.plain (OpenSpec.ofChange clubsSplitsSpec)) clubsSplitsCard

/-- THE TIED CARD OF 'bivouaclaw11.ClubsWhole'. -/
def clubsWholeCard : Claim7 := { stood := { row := clubsWholeRow, standIns := [], harness := (true, "8cac4198e5149a8bf23d558b9d71a197c315f9160eeac6ced6a08cf566295f05"), looks := false }, kinds := [], alts := [], laidByText := true, laidKinds := [.data, .data], laidTests := true, laidLooks := .later }
def ClubsWholeCardSaid : Prop := Claim7.holds Tryz.pinned (.plain (OpenSpec.ofChange clubsWholeSpec)) clubsWholeCard

/-- THE TIED CARD OF 'bivouaclaw11.ClubsPrices'. -/
def clubsPricesCard : Claim7 := { stood := { row := clubsPricesRow, standIns := [], harness := (true, "8cac4198e5149a8bf23d558b9d71a197c315f9160eeac6ced6a08cf566295f05"), looks := false }, kinds := [], alts := [], laidByText := true, laidKinds := [.data, .data], laidTests := true, laidLooks := .later }
def ClubsPricesCardSaid : Prop := Claim7.holds Tryz.pinned (.plain (OpenSpec.ofChange clubsPricesSpec)) clubsPricesCard

/-- THE TIED CARD OF 'bivouaclaw11.ClubsOrder'. -/
def clubsOrderCard : Claim7 := { stood := { row := clubsOrderRow, standIns := [], harness := (true, "8cac4198e5149a8bf23d558b9d71a197c315f9160eeac6ced6a08cf566295f05"), looks := false }, kinds := [], alts := [], laidByText := true, laidKinds := [.data, .data], laidTests := true, laidLooks := .later }
def ClubsOrderCardSaid : Prop := Claim7.holds Tryz.pinned (.plain (OpenSpec.ofChange clubsOrderSpec)) clubsOrderCard

/-- THE TIED CARD OF 'bivouaclaw11.ClubsDearer'. -/
def clubsDearerCard : Claim7 := { stood := { row := clubsDearerRow, standIns := [], harness := (true, "8cac4198e5149a8bf23d558b9d71a197c315f9160eeac6ced6a08cf566295f05"), looks := false }, kinds := [], alts := [], laidByText := true, laidKinds := [.data, .data], laidTests := true, laidLooks := .later }
def ClubsDearerCardSaid : Prop := Claim7.holds Tryz.pinned (.plain (OpenSpec.ofChange clubsDearerSpec)) clubsDearerCard

/-- THE TIED CARD OF 'bivouaclaw11.ClubsZero'. -/
def clubsZeroCard : Claim7 := { stood := { row := clubsZeroRow, standIns := [], harness := (true, "8cac4198e5149a8bf23d558b9d71a197c315f9160eeac6ced6a08cf566295f05"), looks := false }, kinds := [], alts := [], laidByText := true, laidKinds := [.data, .data], laidTests := true, laidLooks := .later }
def ClubsZeroCardSaid : Prop := Claim7.holds Tryz.pinned (.plain (OpenSpec.ofChange clubsZeroSpec)) clubsZeroCard

/-- THE SECOND FORM's CARD OF 'bivouaclaw11.ClubsSettles'. -/
def clubsSettlesUptoCard : Claim7 := { stood := { row := clubsSettlesUptoRow, standIns := [], harness := (true, "8cac4198e5149a8bf23d558b9d71a197c315f9160eeac6ced6a08cf566295f05"), looks := false }, kinds := [], alts := [], laidByText := true, laidKinds := [.data, .data], laidTests := true, laidLooks := .later }
def ClubsSettlesUptoCardSaid : Prop := Claim7.holds Tryz.pinned (.plain (OpenSpec.upto clubsSettlesSpec)) clubsSettlesUptoCard

/-- THE SECOND FORM's CARD OF 'bivouaclaw11.ClubsRaises'. -/
def clubsRaisesUptoCard : Claim7 := { stood := { row := clubsRaisesUptoRow, standIns := [], harness := (true, "8cac4198e5149a8bf23d558b9d71a197c315f9160eeac6ced6a08cf566295f05"), looks := false }, kinds := [], alts := [], laidByText := true, laidKinds := [.data, .data], laidTests := true, laidLooks := .later }
def ClubsRaisesUptoCardSaid : Prop := Claim7.holds Tryz.pinned (.plain (OpenSpec.upto clubsRaisesSpec)) clubsRaisesUptoCard

/-- THE SECOND FORM's CARD OF 'bivouaclaw11.ClubsSettled'. -/
def clubsSettledUptoCard : Claim7 := { stood := { row := clubsSettledUptoRow, standIns := [], harness := (true, "8cac4198e5149a8bf23d558b9d71a197c315f9160eeac6ced6a08cf566295f05"), looks := false }, kinds := [], alts := [], laidByText := true, laidKinds := [.data, .data], laidTests := true, laidLooks := .later }
def ClubsSettledUptoCardSaid : Prop := Claim7.holds Tryz.pinned (.plain (OpenSpec.upto clubsSettledSpec)) clubsSettledUptoCard

/-- THE SECOND FORM's CARD OF 'bivouaclaw11.ClubsEnough'. -/
def clubsEnoughUptoCard : Claim7 := { stood := { row := clubsEnoughUptoRow, standIns := [], harness := (true, "8cac4198e5149a8bf23d558b9d71a197c315f9160eeac6ced6a08cf566295f05"), looks := false }, kinds := [], alts := [], laidByText := true, laidKinds := [.data, .data], laidTests := true, laidLooks := .later }
def ClubsEnoughUptoCardSaid : Prop := Claim7.holds Tryz.pinned (.plain (OpenSpec.upto clubsEnoughSpec)) clubsEnoughUptoCard

/-- THE SECOND FORM's CARD OF 'bivouaclaw11.ClubsSplits'. -/
def clubsSplitsUptoCard : Claim7 := { stood := { row := clubsSplitsUptoRow, standIns := [], harness := (true, "8cac4198e5149a8bf23d558b9d71a197c315f9160eeac6ced6a08cf566295f05"), looks := false }, kinds := [], alts := [], laidByText := true, laidKinds := [.data, .data], laidTests := true, laidLooks := .later }
def ClubsSplitsUptoCardSaid : Prop := Claim7.holds Tryz.pinned (.plain (OpenSpec.upto clubsSplitsSpec)) clubsSplitsUptoCard

/-- THE SECOND FORM's CARD OF 'bivouaclaw11.ClubsWhole'. -/
def clubsWholeUptoCard : Claim7 := { stood := { row := clubsWholeUptoRow, standIns := [], harness := (true, "8cac4198e5149a8bf23d558b9d71a197c315f9160eeac6ced6a08cf566295f05"), looks := false }, kinds := [], alts := [], laidByText := true, laidKinds := [.data, .data], laidTests := true, laidLooks := .later }
def ClubsWholeUptoCardSaid : Prop := Claim7.holds Tryz.pinned (.plain (OpenSpec.upto clubsWholeSpec)) clubsWholeUptoCard

/-- THE SECOND FORM's CARD OF 'bivouaclaw11.ClubsPrices'. -/
def clubsPricesUptoCard : Claim7 := { stood := { row := clubsPricesUptoRow, standIns := [], harness := (true, "8cac4198e5149a8bf23d558b9d71a197c315f9160eeac6ced6a08cf566295f05"), looks := false }, kinds := [], alts := [], laidByText := true, laidKinds := [.data, .data], laidTests := true, laidLooks := .later }
def ClubsPricesUptoCardSaid : Prop := Claim7.holds Tryz.pinned (.plain (OpenSpec.upto clubsPricesSpec)) clubsPricesUptoCard

/-- THE SECOND FORM's CARD OF 'bivouaclaw11.ClubsOrder'. -/
def clubsOrderUptoCard : Claim7 := { stood := { row := clubsOrderUptoRow, standIns := [], harness := (true, "8cac4198e5149a8bf23d558b9d71a197c315f9160eeac6ced6a08cf566295f05"), looks := false }, kinds := [], alts := [], laidByText := true, laidKinds := [.data, .data], laidTests := true, laidLooks := .later }
def ClubsOrderUptoCardSaid : Prop := Claim7.holds Tryz.pinned (.plain (OpenSpec.upto clubsOrderSpec)) clubsOrderUptoCard

/-- THE SECOND FORM's CARD OF 'bivouaclaw11.ClubsDearer'. -/
def clubsDearerUptoCard : Claim7 := { stood := { row := clubsDearerUptoRow, standIns := [], harness := (true, "8cac4198e5149a8bf23d558b9d71a197c315f9160eeac6ced6a08cf566295f05"), looks := false }, kinds := [], alts := [], laidByText := true, laidKinds := [.data, .data], laidTests := true, laidLooks := .later }
def ClubsDearerUptoCardSaid : Prop := Claim7.holds Tryz.pinned (.plain (OpenSpec.upto clubsDearerSpec)) clubsDearerUptoCard

/-- THE SECOND FORM's CARD OF 'bivouaclaw11.ClubsZero'. -/
def clubsZeroUptoCard : Claim7 := { stood := { row := clubsZeroUptoRow, standIns := [], harness := (true, "8cac4198e5149a8bf23d558b9d71a197c315f9160eeac6ced6a08cf566295f05"), looks := false }, kinds := [], alts := [], laidByText := true, laidKinds := [.data, .data], laidTests := true, laidLooks := .later }
def ClubsZeroUptoCardSaid : Prop := Claim7.holds Tryz.pinned (.plain (OpenSpec.upto clubsZeroSpec)) clubsZeroUptoCard
end Rows
end Go.Proofs.YtlmicgmhallkkaaGreatDoor
