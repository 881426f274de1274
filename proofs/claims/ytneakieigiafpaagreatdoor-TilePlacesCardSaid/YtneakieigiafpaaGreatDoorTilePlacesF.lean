/- TilePlaces: the row's closed facts. -/
import Derived.Test.YtneakieigiafpaaGreatDoorCards
import Derived.JoinedOf
namespace Go.Proofs.YtneakieigiafpaaGreatDoor
open Go
set_option maxRecDepth 100000
theorem TilePlaces.wf0 : Rows.tilePlacesRow.wf (OpenSpec.ofChange Rows.tilePlacesSpec) = true := by kernel_rfl
theorem TilePlaces.lay : laidOutB Tryz.pinned.checked.prog = true := by kernel_rfl
theorem TilePlaces.map : mapsRowed Tryz.pinned.checked.prog = true := by kernel_rfl
theorem TilePlaces.tie : namedTie Tryz.pinned.checked.prog Rows.tilePlacesRow.named Rows.tilePlacesSpec.vars = true := by kernel_rfl
theorem TilePlaces.inp : (Rows.tilePlacesRow.inPlace == Tryz.pinned.checked.prog.inPlace 8) = true := by kernel_rfl
theorem TilePlaces.unf : (Rows.tilePlacesRow.unfollowed == Tryz.pinned.checked.prog.unfollowed 8) = true := by kernel_rfl
theorem TilePlaces.rec : (Rows.tilePlacesRow.recurses == Tryz.pinned.checked.prog.recurses 8) = true := by kernel_rfl
theorem TilePlaces.nam : (Rows.tilePlacesRow.named == Tryz.pinned.checked.prog.varsNamed 8) = true := by kernel_rfl
theorem TilePlaces.pk : (Rows.tilePlacesRow.plainKeys == Tryz.pinned.checked.prog.plainKeys) = true := by kernel_rfl
theorem TilePlaces.sh : Tryz.pinned.checked.prog.stopsHeard = true := by kernel_rfl
theorem TilePlaces.me : Tryz.pinned.checked.prog.mayEnter = true := by kernel_rfl
theorem TilePlaces.li : (Rows.tilePlacesRow.lifted == Tryz.pinned.checked.prog.liftsFinal) = true := by kernel_rfl
theorem TilePlaces.mk : (Tryz.pinned.checked.prog.make == some Rows.tilePlacesRow.make) = true := by kernel_rfl
theorem TilePlaces.facts : joinedFacts Tryz.pinned.checked.prog 8 Tryz.f8 Rows.tilePlacesSpec Rows.tilePlacesRow = true := by
  unfold joinedFacts
  rw [TilePlaces.wf0, TilePlaces.lay, TilePlaces.map, TilePlaces.tie, TilePlaces.inp, TilePlaces.unf, TilePlaces.rec, TilePlaces.nam, TilePlaces.pk, TilePlaces.sh, TilePlaces.me, TilePlaces.li, TilePlaces.mk]
  kernel_rfl
theorem TilePlaces.wf : Rows.tilePlacesRow.wfByText (OpenSpec.ofChange Rows.tilePlacesSpec) = true := by kernel_rfl
theorem TilePlaces.goes : false = Rows.tilePlacesRow.goesBy Tryz.pinned.checked.prog := by kernel_rfl
theorem TilePlaces.named : Tryz.pinned.checked.prog.funcNamed Rows.tilePlacesRow.func = some 8 := by kernel_rfl
end Go.Proofs.YtneakieigiafpaaGreatDoor
