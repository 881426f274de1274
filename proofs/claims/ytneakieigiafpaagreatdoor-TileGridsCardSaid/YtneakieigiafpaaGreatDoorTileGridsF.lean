/- TileGrids: the row's closed facts. -/
import Derived.Test.YtneakieigiafpaaGreatDoorCards
import Derived.JoinedOf
namespace Go.Proofs.YtneakieigiafpaaGreatDoor
open Go
set_option maxRecDepth 100000
theorem TileGrids.wf0 : Rows.tileGridsRow.wf (OpenSpec.ofChange Rows.tileGridsSpec) = true := by kernel_rfl
theorem TileGrids.lay : laidOutB Tryz.pinned.checked.prog = true := by kernel_rfl
theorem TileGrids.map : mapsRowed Tryz.pinned.checked.prog = true := by kernel_rfl
theorem TileGrids.tie : namedTie Tryz.pinned.checked.prog Rows.tileGridsRow.named Rows.tileGridsSpec.vars = true := by kernel_rfl
theorem TileGrids.inp : (Rows.tileGridsRow.inPlace == Tryz.pinned.checked.prog.inPlace 7) = true := by kernel_rfl
theorem TileGrids.unf : (Rows.tileGridsRow.unfollowed == Tryz.pinned.checked.prog.unfollowed 7) = true := by kernel_rfl
theorem TileGrids.rec : (Rows.tileGridsRow.recurses == Tryz.pinned.checked.prog.recurses 7) = true := by kernel_rfl
theorem TileGrids.nam : (Rows.tileGridsRow.named == Tryz.pinned.checked.prog.varsNamed 7) = true := by kernel_rfl
theorem TileGrids.pk : (Rows.tileGridsRow.plainKeys == Tryz.pinned.checked.prog.plainKeys) = true := by kernel_rfl
theorem TileGrids.sh : Tryz.pinned.checked.prog.stopsHeard = true := by kernel_rfl
theorem TileGrids.me : Tryz.pinned.checked.prog.mayEnter = true := by kernel_rfl
theorem TileGrids.li : (Rows.tileGridsRow.lifted == Tryz.pinned.checked.prog.liftsFinal) = true := by kernel_rfl
theorem TileGrids.mk : (Tryz.pinned.checked.prog.make == some Rows.tileGridsRow.make) = true := by kernel_rfl
theorem TileGrids.facts : joinedFacts Tryz.pinned.checked.prog 7 Tryz.f7 Rows.tileGridsSpec Rows.tileGridsRow = true := by
  unfold joinedFacts
  rw [TileGrids.wf0, TileGrids.lay, TileGrids.map, TileGrids.tie, TileGrids.inp, TileGrids.unf, TileGrids.rec, TileGrids.nam, TileGrids.pk, TileGrids.sh, TileGrids.me, TileGrids.li, TileGrids.mk]
  kernel_rfl
theorem TileGrids.wf : Rows.tileGridsRow.wfByText (OpenSpec.ofChange Rows.tileGridsSpec) = true := by kernel_rfl
theorem TileGrids.goes : false = Rows.tileGridsRow.goesBy Tryz.pinned.checked.prog := by kernel_rfl
theorem TileGrids.named : Tryz.pinned.checked.prog.funcNamed Rows.tileGridsRow.func = some 7 := by kernel_rfl
end Go.Proofs.YtneakieigiafpaaGreatDoor
