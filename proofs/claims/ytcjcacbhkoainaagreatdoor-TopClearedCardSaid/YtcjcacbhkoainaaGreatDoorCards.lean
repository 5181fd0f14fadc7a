/-
  DERIVED. GIVEN WITH THE SEED: THE CARDS: each row of YtcjcacbhkoainaaGreatDoorRows.lean that lists a variable, with what it lists TIED to the program's text (the seventh form; the later family's looks); each row that meets fmt, with fmt's text TOLD by the authors' own Lean function (tested against real Go, not proved from fmt's source: count such statements apart). THE CARD IS WHAT COUNTS. Prove the row's statement (the work); the ties are given (YtcjcacbhkoainaaGreatDoorTie.lean); close each card by the builder's one call (the guide's Derived/Test/ToyasCard.lean, 'card_holds'). Laid BY PROGRAM, IN A SANDBOX (cutbox-door.mjs). By AI agents, Wed Nov 11 2026. No macro, syntax, notation, axiom, sorry.
-/
import Derived.Test.YtcjcacbhkoainaaGreatDoorRows
import GoSem.ClaimSeven
namespace Go.Proofs.YtcjcacbhkoainaaGreatDoor
namespace Rows

/-- THE TIED CARD OF 'bivouaclaw11.ClubsSettles'. -/
def clubsSettlesCard : Claim7 := { stood := { row := clubsSettlesRow, standIns := [], harness := (true, "1d6c8e2705dd690478a5516f86eeb21ad40d4f5aee3335164fadd722d372721f"), looks := false }, kinds := [], alts := [], laidByText := true, laidKinds := [.data, .data], laidTests := true, laidLooks := .later }
def ClubsSettlesCardSaid : Prop := Claim7.holds Tryz.pinned (.plain (OpenSpec.ofChange clubsSettlesSpec)) clubsSettlesCard

/-- THE TIED CARD OF 'bivouaclaw11.ClubsSettled'. -/
def clubsSettledCard : Claim7 := { stood := { row := clubsSettledRow, standIns := [], harness := (true, "1d6c8e2705dd690478a5516f86eeb21ad40d4f5aee3335164fadd722d372721f"), looks := false }, kinds := [], alts := [], laidByText := true, laidKinds := [.data, .data], laidTests := true, laidLooks := .later }
def ClubsSettledCardSaid : Prop := Claim7.holds Tryz.pinned (.plain (OpenSpec.ofChange clubsSettledSpec)) clubsSettledCard

/-- THE TIED CARD OF 'bivouaclaw11.ClubsDearer'. -/
def clubsDearerCard : Claim7 := { stood := { row := clubsDearerRow, standIns := [], harness := (true, "1d6c8e2705dd690478a5516f86eeb21ad40d4f5aee3335164fadd722d372721f"), looks := false }, kinds := [], alts := [], laidByText := true, laidKinds := [.data, .data], laidTests := true, laidLooks := .later }
def ClubsDearerCardSaid : Prop := Claim7.holds Tryz.pinned (.plain (OpenSpec.ofChange clubsDearerSpec)) clubsDearerCard

/-- THE TIED CARD OF 'bivouactop.TopCleared'. -/
def topClearedCard : Claim7 := { stood := { row := topClearedRow, standIns := [], harness := (true, "1d6c8e2705dd690478a5516f86eeb21ad40d4f5aee3335164fadd722d372721f"), looks := false }, kinds := [], alts := [], laidByText := true, laidKinds := [.data, .data], laidTests := true, laidLooks := .later }
def TopClearedCardSaid : Prop := Claim7.holds Tryz.pinned (.plain (OpenSpec.ofChange topClearedSpec)) topClearedCard

/-- THE SECOND FORM's CARD OF 'bivouaclaw11.ClubsSettles'. -/
def clubsSettlesUptoCard : Claim7 := { stood := { row := clubsSettlesUptoRow, standIns := [], harness := (true, "1d6c8e2705dd690478a5516f86eeb21ad40d4f5aee3335164fadd722d372721f"), looks := false }, kinds := [], alts := [], laidByText := true, laidKinds := [.data, .data], laidTests := true, laidLooks := .later }
def ClubsSettlesUptoCardSaid : Prop := Claim7.holds Tryz.pinned (.plain (OpenSpec.upto clubsSettlesSpec)) clubsSettlesUptoCard

/-- THE SECOND FORM's CARD OF 'bivouaclaw11.ClubsSettled'. -/
def clubsSettledUptoCard : Claim7 := { stood := { row := clubsSettledUptoRow, standIns := [], harness := (true, "1d6c8e2705dd690478a5516f86eeb21ad40d4f5aee3335164fadd722d372721f"), looks := false }, kinds := [], alts := [], laidByText := true, laidKinds := [.data, .data], laidTests := true, laidLooks := .later }
def ClubsSettledUptoCardSaid : Prop := Claim7.holds Tryz.pinned (.plain (OpenSpec.upto clubsSettledSpec)) clubsSettledUptoCard

/-- THE SECOND FORM's CARD OF 'bivouaclaw11.ClubsDearer'. -/
def clubsDearerUptoCard : Claim7 := { stood := { row := clubsDearerUptoRow, standIns := [], harness := (true, "1d6c8e2705dd690478a5516f86eeb21ad40d4f5aee3335164fadd722d372721f"), looks := false }, kinds := [], alts := [], laidByText := true, laidKinds := [.data, .data], laidTests := true, laidLooks := .later }
def ClubsDearerUptoCardSaid : Prop := Claim7.holds Tryz.pinned (.plain (OpenSpec.upto clubsDearerSpec)) clubsDearerUptoCard

/-- THE SECOND FORM's CARD OF 'bivouactop.TopCleared'. -/
def topClearedUptoCard : Claim7 := { stood := { row := topClearedUptoRow, standIns := [], harness := (true, "1d6c8e2705dd690478a5516f86eeb21ad40d4f5aee3335164fadd722d372721f"), looks := false }, kinds := [], alts := [], laidByText := true, laidKinds := [.data, .data], laidTests := true, laidLooks := .later }
def TopClearedUptoCardSaid : Prop := Claim7.holds Tryz.pinned (.plain (OpenSpec.upto topClearedSpec)) topClearedUptoCard
end Rows
end Go.Proofs.YtcjcacbhkoainaaGreatDoor
