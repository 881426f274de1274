/- TileNone: the row's closed facts. -/
import Derived.Test.YtneakieigiafpaaGreatDoorCards
import Derived.JoinedOf
namespace Go.Proofs.YtneakieigiafpaaGreatDoor
open Go
set_option maxRecDepth 100000
theorem TileNone.wf0 : Rows.tileNoneRow.wf (OpenSpec.ofChange Rows.tileNoneSpec) = true := by kernel_rfl
theorem TileNone.lay : laidOutB Tryz.pinned.checked.prog = true := by kernel_rfl
theorem TileNone.map : mapsRowed Tryz.pinned.checked.prog = true := by kernel_rfl
theorem TileNone.tie : namedTie Tryz.pinned.checked.prog Rows.tileNoneRow.named Rows.tileNoneSpec.vars = true := by kernel_rfl
theorem TileNone.inp : (Rows.tileNoneRow.inPlace == Tryz.pinned.checked.prog.inPlace 9) = true := by kernel_rfl
theorem TileNone.unf : (Rows.tileNoneRow.unfollowed == Tryz.pinned.checked.prog.unfollowed 9) = true := by kernel_rfl
theorem TileNone.rec : (Rows.tileNoneRow.recurses == Tryz.pinned.checked.prog.recurses 9) = true := by kernel_rfl
theorem TileNone.nam : (Rows.tileNoneRow.named == Tryz.pinned.checked.prog.varsNamed 9) = true := by kernel_rfl
theorem TileNone.pk : (Rows.tileNoneRow.plainKeys == Tryz.pinned.checked.prog.plainKeys) = true := by kernel_rfl
theorem TileNone.sh : Tryz.pinned.checked.prog.stopsHeard = true := by kernel_rfl
theorem TileNone.me : Tryz.pinned.checked.prog.mayEnter = true := by kernel_rfl
theorem TileNone.li : (Rows.tileNoneRow.lifted == Tryz.pinned.checked.prog.liftsFinal) = true := by kernel_rfl
theorem TileNone.mk : (Tryz.pinned.checked.prog.make == some Rows.tileNoneRow.make) = true := by kernel_rfl
theorem TileNone.facts : joinedFacts Tryz.pinned.checked.prog 9 Tryz.f9 Rows.tileNoneSpec Rows.tileNoneRow = true := by
  unfold joinedFacts
  rw [TileNone.wf0, TileNone.lay, TileNone.map, TileNone.tie, TileNone.inp, TileNone.unf, TileNone.rec, TileNone.nam, TileNone.pk, TileNone.sh, TileNone.me, TileNone.li, TileNone.mk]
  kernel_rfl
theorem TileNone.wf : Rows.tileNoneRow.wfByText (OpenSpec.ofChange Rows.tileNoneSpec) = true := by kernel_rfl
theorem TileNone.goes : false = Rows.tileNoneRow.goesBy Tryz.pinned.checked.prog := by kernel_rfl
theorem TileNone.named : Tryz.pinned.checked.prog.funcNamed Rows.tileNoneRow.func = some 9 := by kernel_rfl
end Go.Proofs.YtneakieigiafpaaGreatDoor
