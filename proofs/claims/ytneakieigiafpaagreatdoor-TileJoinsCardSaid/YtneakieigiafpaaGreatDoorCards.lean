/-
  DERIVED. GIVEN WITH THE SEED: THE CARDS: each row of YtneakieigiafpaaGreatDoorRows.lean that lists a variable, with what it lists TIED to the program's text (the seventh form; the later family's looks); each row that meets fmt, with fmt's text TOLD by the authors' own Lean function (tested against real Go, not proved from fmt's source: count such statements apart). THE CARD IS WHAT COUNTS. Prove the row's statement (the work); the ties are given (YtneakieigiafpaaGreatDoorTie.lean); close each card by the builder's one call (the guide's Derived/Test/ToyasCard.lean, 'card_holds'). Laid BY PROGRAM, IN A SANDBOX (cutbox-door.mjs). By AI agents, Wed Nov 11 2026. No macro, syntax, notation, axiom, sorry.
-/
import Derived.Test.YtneakieigiafpaaGreatDoorRows
import GoSem.ClaimSeven
namespace Go.Proofs.YtneakieigiafpaaGreatDoor
namespace Rows

/-- THE TIED CARD OF 'filigreelaw18.TrapNames'. -/
def trapNamesCard : Claim7 := { stood := { row := trapNamesRow, standIns := [], harness := (true, "ddce64fa31c68f8f0276817b83e07267189c54670259838e028afcfcea18923a"), looks := true }, kinds := [], alts := [], laidByText := true, laidKinds := [.data], laidTests := true, laidLooks := .later }
def TrapNamesCardSaid : Prop := Claim7.holds Tryz.pinned (.plain (OpenSpec.ofChange trapNamesSpec)) trapNamesCard

/-- THE TIED CARD OF 'filigreelaw27.RefineNames'. -/
def refineNamesCard : Claim7 := { stood := { row := refineNamesRow, standIns := [], harness := (true, "ddce64fa31c68f8f0276817b83e07267189c54670259838e028afcfcea18923a"), looks := true }, kinds := [], alts := [], laidByText := true, laidKinds := [.data], laidTests := true, laidLooks := .later }
def RefineNamesCardSaid : Prop := Claim7.holds Tryz.pinned (.plain (OpenSpec.ofChange refineNamesSpec)) refineNamesCard

/-- THE TIED CARD OF 'filigreelaw25.TileNames'. -/
def tileNamesCard : Claim7 := { stood := { row := tileNamesRow, standIns := [], harness := (true, "ddce64fa31c68f8f0276817b83e07267189c54670259838e028afcfcea18923a"), looks := true }, kinds := [], alts := [], laidByText := true, laidKinds := [.data, .data], laidTests := true, laidLooks := .later }
def TileNamesCardSaid : Prop := Claim7.holds Tryz.pinned (.plain (OpenSpec.ofChange tileNamesSpec)) tileNamesCard

/-- THE TIED CARD OF 'filigreelaw28.StoreNames'. -/
def storeNamesCard : Claim7 := { stood := { row := storeNamesRow, standIns := [], harness := (true, "ddce64fa31c68f8f0276817b83e07267189c54670259838e028afcfcea18923a"), looks := true }, kinds := [], alts := [], laidByText := true, laidKinds := [.data, .data], laidTests := true, laidLooks := .later }
def StoreNamesCardSaid : Prop := Claim7.holds Tryz.pinned (.plain (OpenSpec.ofChange storeNamesSpec)) storeNamesCard

/-- THE TIED CARD OF 'filigreelaw25.TileGrids'. -/
def tileGridsCard : Claim7 := { stood := { row := tileGridsRow, standIns := [], harness := (true, "ddce64fa31c68f8f0276817b83e07267189c54670259838e028afcfcea18923a"), looks := true }, kinds := [], alts := [], laidByText := true, laidKinds := [.data, .data], laidTests := true, laidLooks := .later }
def TileGridsCardSaid : Prop := Claim7.holds Tryz.pinned (.plain (OpenSpec.ofChange tileGridsSpec)) tileGridsCard

/-- THE TIED CARD OF 'filigreelaw25.TilePlaces'. -/
def tilePlacesCard : Claim7 := { stood := { row := tilePlacesRow, standIns := [], harness := (true, "ddce64fa31c68f8f0276817b83e07267189c54670259838e028afcfcea18923a"), looks := true }, kinds := [], alts := [], laidByText := true, laidKinds := [.data, .data], laidTests := true, laidLooks := .later }
def TilePlacesCardSaid : Prop := Claim7.holds Tryz.pinned (.plain (OpenSpec.ofChange tilePlacesSpec)) tilePlacesCard

/-- THE TIED CARD OF 'filigreelaw25.TileNone'. -/
def tileNoneCard : Claim7 := { stood := { row := tileNoneRow, standIns := [], harness := (true, "ddce64fa31c68f8f0276817b83e07267189c54670259838e028afcfcea18923a"), looks := true }, kinds := [], alts := [], laidByText := true, laidKinds := [.data, .data], laidTests := true, laidLooks := .later }
def TileNoneCardSaid : Prop := Claim7.holds Tryz.pinned (.plain (OpenSpec.ofChange tileNoneSpec)) tileNoneCard

/-- THE TIED CARD OF 'filigreelaw25.TileLong'. -/
def tileLongCard : Claim7 := { stood := { row := tileLongRow, standIns := [], harness := (true, "ddce64fa31c68f8f0276817b83e07267189c54670259838e028afcfcea18923a"), looks := true }, kinds := [], alts := [], laidByText := true, laidKinds := [.data, .data], laidTests := true, laidLooks := .later }
def TileLongCardSaid : Prop := Claim7.holds Tryz.pinned (.plain (OpenSpec.ofChange tileLongSpec)) tileLongCard

/-- THE TIED CARD OF 'filigreelaw28.StoreNone'. -/
def storeNoneCard : Claim7 := { stood := { row := storeNoneRow, standIns := [], harness := (true, "ddce64fa31c68f8f0276817b83e07267189c54670259838e028afcfcea18923a"), looks := true }, kinds := [], alts := [], laidByText := true, laidKinds := [.data, .data], laidTests := true, laidLooks := .later }
def StoreNoneCardSaid : Prop := Claim7.holds Tryz.pinned (.plain (OpenSpec.ofChange storeNoneSpec)) storeNoneCard

/-- THE TIED CARD OF 'filigreelaw25.TileJoins'. -/
def tileJoinsCard : Claim7 := { stood := { row := tileJoinsRow, standIns := [], harness := (true, "ddce64fa31c68f8f0276817b83e07267189c54670259838e028afcfcea18923a"), looks := true }, kinds := [], alts := [], laidByText := true, laidKinds := [.data, .data], laidTests := true, laidLooks := .later }
def TileJoinsCardSaid : Prop := Claim7.holds Tryz.pinned (.plain (OpenSpec.ofChange tileJoinsSpec)) tileJoinsCard

/-- THE SECOND FORM's CARD OF 'filigreelaw18.TrapNames'. -/
def trapNamesUptoCard : Claim7 := { stood := { row := trapNamesUptoRow, standIns := [], harness := (true, "ddce64fa31c68f8f0276817b83e07267189c54670259838e028afcfcea18923a"), looks := true }, kinds := [], alts := [], laidByText := true, laidKinds := [.data], laidTests := true, laidLooks := .later }
def TrapNamesUptoCardSaid : Prop := Claim7.holds Tryz.pinned (.plain (OpenSpec.upto trapNamesSpec)) trapNamesUptoCard

/-- THE SECOND FORM's CARD OF 'filigreelaw27.RefineNames'. -/
def refineNamesUptoCard : Claim7 := { stood := { row := refineNamesUptoRow, standIns := [], harness := (true, "ddce64fa31c68f8f0276817b83e07267189c54670259838e028afcfcea18923a"), looks := true }, kinds := [], alts := [], laidByText := true, laidKinds := [.data], laidTests := true, laidLooks := .later }
def RefineNamesUptoCardSaid : Prop := Claim7.holds Tryz.pinned (.plain (OpenSpec.upto refineNamesSpec)) refineNamesUptoCard

/-- THE SECOND FORM's CARD OF 'filigreelaw25.TileNames'. -/
def tileNamesUptoCard : Claim7 := { stood := { row := tileNamesUptoRow, standIns := [], harness := (true, "ddce64fa31c68f8f0276817b83e07267189c54670259838e028afcfcea18923a"), looks := true }, kinds := [], alts := [], laidByText := true, laidKinds := [.data, .data], laidTests := true, laidLooks := .later }
def TileNamesUptoCardSaid : Prop := Claim7.holds Tryz.pinned (.plain (OpenSpec.upto tileNamesSpec)) tileNamesUptoCard

/-- THE SECOND FORM's CARD OF 'filigreelaw28.StoreNames'. -/
def storeNamesUptoCard : Claim7 := { stood := { row := storeNamesUptoRow, standIns := [], harness := (true, "ddce64fa31c68f8f0276817b83e07267189c54670259838e028afcfcea18923a"), looks := true }, kinds := [], alts := [], laidByText := true, laidKinds := [.data, .data], laidTests := true, laidLooks := .later }
def StoreNamesUptoCardSaid : Prop := Claim7.holds Tryz.pinned (.plain (OpenSpec.upto storeNamesSpec)) storeNamesUptoCard

/-- THE SECOND FORM's CARD OF 'filigreelaw25.TileGrids'. -/
def tileGridsUptoCard : Claim7 := { stood := { row := tileGridsUptoRow, standIns := [], harness := (true, "ddce64fa31c68f8f0276817b83e07267189c54670259838e028afcfcea18923a"), looks := true }, kinds := [], alts := [], laidByText := true, laidKinds := [.data, .data], laidTests := true, laidLooks := .later }
def TileGridsUptoCardSaid : Prop := Claim7.holds Tryz.pinned (.plain (OpenSpec.upto tileGridsSpec)) tileGridsUptoCard

/-- THE SECOND FORM's CARD OF 'filigreelaw25.TilePlaces'. -/
def tilePlacesUptoCard : Claim7 := { stood := { row := tilePlacesUptoRow, standIns := [], harness := (true, "ddce64fa31c68f8f0276817b83e07267189c54670259838e028afcfcea18923a"), looks := true }, kinds := [], alts := [], laidByText := true, laidKinds := [.data, .data], laidTests := true, laidLooks := .later }
def TilePlacesUptoCardSaid : Prop := Claim7.holds Tryz.pinned (.plain (OpenSpec.upto tilePlacesSpec)) tilePlacesUptoCard

/-- THE SECOND FORM's CARD OF 'filigreelaw25.TileNone'. -/
def tileNoneUptoCard : Claim7 := { stood := { row := tileNoneUptoRow, standIns := [], harness := (true, "ddce64fa31c68f8f0276817b83e07267189c54670259838e028afcfcea18923a"), looks := true }, kinds := [], alts := [], laidByText := true, laidKinds := [.data, .data], laidTests := true, laidLooks := .later }
def TileNoneUptoCardSaid : Prop := Claim7.holds Tryz.pinned (.plain (OpenSpec.upto tileNoneSpec)) tileNoneUptoCard

/-- THE SECOND FORM's CARD OF 'filigreelaw25.TileLong'. -/
def tileLongUptoCard : Claim7 := { stood := { row := tileLongUptoRow, standIns := [], harness := (true, "ddce64fa31c68f8f0276817b83e07267189c54670259838e028afcfcea18923a"), looks := true }, kinds := [], alts := [], laidByText := true, laidKinds := [.data, .data], laidTests := true, laidLooks := .later }
def TileLongUptoCardSaid : Prop := Claim7.holds Tryz.pinned (.plain (OpenSpec.upto tileLongSpec)) tileLongUptoCard

/-- THE SECOND FORM's CARD OF 'filigreelaw28.StoreNone'. -/
def storeNoneUptoCard : Claim7 := { stood := { row := storeNoneUptoRow, standIns := [], harness := (true, "ddce64fa31c68f8f0276817b83e07267189c54670259838e028afcfcea18923a"), looks := true }, kinds := [], alts := [], laidByText := true, laidKinds := [.data, .data], laidTests := true, laidLooks := .later }
def StoreNoneUptoCardSaid : Prop := Claim7.holds Tryz.pinned (.plain (OpenSpec.upto storeNoneSpec)) storeNoneUptoCard

/-- THE SECOND FORM's CARD OF 'filigreelaw25.TileJoins'. -/
def tileJoinsUptoCard : Claim7 := { stood := { row := tileJoinsUptoRow, standIns := [], harness := (true, "ddce64fa31c68f8f0276817b83e07267189c54670259838e028afcfcea18923a"), looks := true }, kinds := [], alts := [], laidByText := true, laidKinds := [.data, .data], laidTests := true, laidLooks := .later }
def TileJoinsUptoCardSaid : Prop := Claim7.holds Tryz.pinned (.plain (OpenSpec.upto tileJoinsSpec)) tileJoinsUptoCard
end Rows
end Go.Proofs.YtneakieigiafpaaGreatDoor
