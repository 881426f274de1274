/- RefineNames: the row's closed facts. -/
import Derived.Test.YtneakieigiafpaaGreatDoorCards
import Derived.JoinedOf
namespace Go.Proofs.YtneakieigiafpaaGreatDoor
open Go
set_option maxRecDepth 100000
theorem RefineNames.wf0 : Rows.refineNamesRow.wf (OpenSpec.ofChange Rows.refineNamesSpec) = true := by kernel_rfl
theorem RefineNames.lay : laidOutB Tryz.pinned.checked.prog = true := by kernel_rfl
theorem RefineNames.map : mapsRowed Tryz.pinned.checked.prog = true := by kernel_rfl
theorem RefineNames.tie : namedTie Tryz.pinned.checked.prog Rows.refineNamesRow.named Rows.refineNamesSpec.vars = true := by kernel_rfl
theorem RefineNames.inp : (Rows.refineNamesRow.inPlace == Tryz.pinned.checked.prog.inPlace 4) = true := by kernel_rfl
theorem RefineNames.unf : (Rows.refineNamesRow.unfollowed == Tryz.pinned.checked.prog.unfollowed 4) = true := by kernel_rfl
theorem RefineNames.rec : (Rows.refineNamesRow.recurses == Tryz.pinned.checked.prog.recurses 4) = true := by kernel_rfl
theorem RefineNames.nam : (Rows.refineNamesRow.named == Tryz.pinned.checked.prog.varsNamed 4) = true := by kernel_rfl
theorem RefineNames.pk : (Rows.refineNamesRow.plainKeys == Tryz.pinned.checked.prog.plainKeys) = true := by kernel_rfl
theorem RefineNames.sh : Tryz.pinned.checked.prog.stopsHeard = true := by kernel_rfl
theorem RefineNames.me : Tryz.pinned.checked.prog.mayEnter = true := by kernel_rfl
theorem RefineNames.li : (Rows.refineNamesRow.lifted == Tryz.pinned.checked.prog.liftsFinal) = true := by kernel_rfl
theorem RefineNames.mk : (Tryz.pinned.checked.prog.make == some Rows.refineNamesRow.make) = true := by kernel_rfl
theorem RefineNames.facts : joinedFacts Tryz.pinned.checked.prog 4 Tryz.f4 Rows.refineNamesSpec Rows.refineNamesRow = true := by
  unfold joinedFacts
  rw [RefineNames.wf0, RefineNames.lay, RefineNames.map, RefineNames.tie, RefineNames.inp, RefineNames.unf, RefineNames.rec, RefineNames.nam, RefineNames.pk, RefineNames.sh, RefineNames.me, RefineNames.li, RefineNames.mk]
  kernel_rfl
theorem RefineNames.wf : Rows.refineNamesRow.wfByText (OpenSpec.ofChange Rows.refineNamesSpec) = true := by kernel_rfl
theorem RefineNames.goes : false = Rows.refineNamesRow.goesBy Tryz.pinned.checked.prog := by kernel_rfl
theorem RefineNames.named : Tryz.pinned.checked.prog.funcNamed Rows.refineNamesRow.func = some 4 := by kernel_rfl
end Go.Proofs.YtneakieigiafpaaGreatDoor
