/- StoreNone: the row's closed facts. -/
import Derived.Test.YtneakieigiafpaaGreatDoorCards
import Derived.JoinedOf
namespace Go.Proofs.YtneakieigiafpaaGreatDoor
open Go
set_option maxRecDepth 100000
theorem StoreNone.wf0 : Rows.storeNoneRow.wf (OpenSpec.ofChange Rows.storeNoneSpec) = true := by kernel_rfl
theorem StoreNone.lay : laidOutB Tryz.pinned.checked.prog = true := by kernel_rfl
theorem StoreNone.map : mapsRowed Tryz.pinned.checked.prog = true := by kernel_rfl
theorem StoreNone.tie : namedTie Tryz.pinned.checked.prog Rows.storeNoneRow.named Rows.storeNoneSpec.vars = true := by kernel_rfl
theorem StoreNone.inp : (Rows.storeNoneRow.inPlace == Tryz.pinned.checked.prog.inPlace 11) = true := by kernel_rfl
theorem StoreNone.unf : (Rows.storeNoneRow.unfollowed == Tryz.pinned.checked.prog.unfollowed 11) = true := by kernel_rfl
theorem StoreNone.rec : (Rows.storeNoneRow.recurses == Tryz.pinned.checked.prog.recurses 11) = true := by kernel_rfl
theorem StoreNone.nam : (Rows.storeNoneRow.named == Tryz.pinned.checked.prog.varsNamed 11) = true := by kernel_rfl
theorem StoreNone.pk : (Rows.storeNoneRow.plainKeys == Tryz.pinned.checked.prog.plainKeys) = true := by kernel_rfl
theorem StoreNone.sh : Tryz.pinned.checked.prog.stopsHeard = true := by kernel_rfl
theorem StoreNone.me : Tryz.pinned.checked.prog.mayEnter = true := by kernel_rfl
theorem StoreNone.li : (Rows.storeNoneRow.lifted == Tryz.pinned.checked.prog.liftsFinal) = true := by kernel_rfl
theorem StoreNone.mk : (Tryz.pinned.checked.prog.make == some Rows.storeNoneRow.make) = true := by kernel_rfl
theorem StoreNone.facts : joinedFacts Tryz.pinned.checked.prog 11 Tryz.f11 Rows.storeNoneSpec Rows.storeNoneRow = true := by
  unfold joinedFacts
  rw [StoreNone.wf0, StoreNone.lay, StoreNone.map, StoreNone.tie, StoreNone.inp, StoreNone.unf, StoreNone.rec, StoreNone.nam, StoreNone.pk, StoreNone.sh, StoreNone.me, StoreNone.li, StoreNone.mk]
  kernel_rfl
theorem StoreNone.wf : Rows.storeNoneRow.wfByText (OpenSpec.ofChange Rows.storeNoneSpec) = true := by kernel_rfl
theorem StoreNone.goes : false = Rows.storeNoneRow.goesBy Tryz.pinned.checked.prog := by kernel_rfl
theorem StoreNone.named : Tryz.pinned.checked.prog.funcNamed Rows.storeNoneRow.func = some 11 := by kernel_rfl
end Go.Proofs.YtneakieigiafpaaGreatDoor
