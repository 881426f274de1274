/- TileJoins: the row's closed facts. -/
import Derived.Test.YtneakieigiafpaaGreatDoorCards
import Derived.JoinedOf
namespace Go.Proofs.YtneakieigiafpaaGreatDoor
open Go
set_option maxRecDepth 100000
theorem TileJoins.wf0 : Rows.tileJoinsRow.wf (OpenSpec.ofChange Rows.tileJoinsSpec) = true := by kernel_rfl
theorem TileJoins.lay : laidOutB Tryz.pinned.checked.prog = true := by kernel_rfl
theorem TileJoins.map : mapsRowed Tryz.pinned.checked.prog = true := by kernel_rfl
theorem TileJoins.tie : namedTie Tryz.pinned.checked.prog Rows.tileJoinsRow.named Rows.tileJoinsSpec.vars = true := by kernel_rfl
theorem TileJoins.inp : (Rows.tileJoinsRow.inPlace == Tryz.pinned.checked.prog.inPlace 12) = true := by kernel_rfl
theorem TileJoins.unf : (Rows.tileJoinsRow.unfollowed == Tryz.pinned.checked.prog.unfollowed 12) = true := by kernel_rfl
theorem TileJoins.rec : (Rows.tileJoinsRow.recurses == Tryz.pinned.checked.prog.recurses 12) = true := by kernel_rfl
theorem TileJoins.nam : (Rows.tileJoinsRow.named == Tryz.pinned.checked.prog.varsNamed 12) = true := by kernel_rfl
theorem TileJoins.pk : (Rows.tileJoinsRow.plainKeys == Tryz.pinned.checked.prog.plainKeys) = true := by kernel_rfl
theorem TileJoins.sh : Tryz.pinned.checked.prog.stopsHeard = true := by kernel_rfl
theorem TileJoins.me : Tryz.pinned.checked.prog.mayEnter = true := by kernel_rfl
theorem TileJoins.li : (Rows.tileJoinsRow.lifted == Tryz.pinned.checked.prog.liftsFinal) = true := by kernel_rfl
theorem TileJoins.mk : (Tryz.pinned.checked.prog.make == some Rows.tileJoinsRow.make) = true := by kernel_rfl
theorem TileJoins.facts : joinedFacts Tryz.pinned.checked.prog 12 Tryz.f12 Rows.tileJoinsSpec Rows.tileJoinsRow = true := by
  unfold joinedFacts
  rw [TileJoins.wf0, TileJoins.lay, TileJoins.map, TileJoins.tie, TileJoins.inp, TileJoins.unf, TileJoins.rec, TileJoins.nam, TileJoins.pk, TileJoins.sh, TileJoins.me, TileJoins.li, TileJoins.mk]
  kernel_rfl
theorem TileJoins.wf : Rows.tileJoinsRow.wfByText (OpenSpec.ofChange Rows.tileJoinsSpec) = true := by kernel_rfl
theorem TileJoins.goes : false = Rows.tileJoinsRow.goesBy Tryz.pinned.checked.prog := by kernel_rfl
theorem TileJoins.named : Tryz.pinned.checked.prog.funcNamed Rows.tileJoinsRow.func = some 12 := by kernel_rfl
end Go.Proofs.YtneakieigiafpaaGreatDoor
