/- StoreNames: the row's closed facts. -/
import Derived.Test.YtneakieigiafpaaGreatDoorCards
import Derived.JoinedOf
namespace Go.Proofs.YtneakieigiafpaaGreatDoor
open Go
set_option maxRecDepth 100000
theorem StoreNames.wf0 : Rows.storeNamesRow.wf (OpenSpec.ofChange Rows.storeNamesSpec) = true := by kernel_rfl
theorem StoreNames.lay : laidOutB Tryz.pinned.checked.prog = true := by kernel_rfl
theorem StoreNames.map : mapsRowed Tryz.pinned.checked.prog = true := by kernel_rfl
theorem StoreNames.tie : namedTie Tryz.pinned.checked.prog Rows.storeNamesRow.named Rows.storeNamesSpec.vars = true := by kernel_rfl
theorem StoreNames.inp : (Rows.storeNamesRow.inPlace == Tryz.pinned.checked.prog.inPlace 6) = true := by kernel_rfl
theorem StoreNames.unf : (Rows.storeNamesRow.unfollowed == Tryz.pinned.checked.prog.unfollowed 6) = true := by kernel_rfl
theorem StoreNames.rec : (Rows.storeNamesRow.recurses == Tryz.pinned.checked.prog.recurses 6) = true := by kernel_rfl
theorem StoreNames.nam : (Rows.storeNamesRow.named == Tryz.pinned.checked.prog.varsNamed 6) = true := by kernel_rfl
theorem StoreNames.pk : (Rows.storeNamesRow.plainKeys == Tryz.pinned.checked.prog.plainKeys) = true := by kernel_rfl
theorem StoreNames.sh : Tryz.pinned.checked.prog.stopsHeard = true := by kernel_rfl
theorem StoreNames.me : Tryz.pinned.checked.prog.mayEnter = true := by kernel_rfl
theorem StoreNames.li : (Rows.storeNamesRow.lifted == Tryz.pinned.checked.prog.liftsFinal) = true := by kernel_rfl
theorem StoreNames.mk : (Tryz.pinned.checked.prog.make == some Rows.storeNamesRow.make) = true := by kernel_rfl
theorem StoreNames.facts : joinedFacts Tryz.pinned.checked.prog 6 Tryz.f6 Rows.storeNamesSpec Rows.storeNamesRow = true := by
  unfold joinedFacts
  rw [StoreNames.wf0, StoreNames.lay, StoreNames.map, StoreNames.tie, StoreNames.inp, StoreNames.unf, StoreNames.rec, StoreNames.nam, StoreNames.pk, StoreNames.sh, StoreNames.me, StoreNames.li, StoreNames.mk]
  kernel_rfl
theorem StoreNames.wf : Rows.storeNamesRow.wfByText (OpenSpec.ofChange Rows.storeNamesSpec) = true := by kernel_rfl
theorem StoreNames.goes : false = Rows.storeNamesRow.goesBy Tryz.pinned.checked.prog := by kernel_rfl
theorem StoreNames.named : Tryz.pinned.checked.prog.funcNamed Rows.storeNamesRow.func = some 6 := by kernel_rfl
end Go.Proofs.YtneakieigiafpaaGreatDoor
