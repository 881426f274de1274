/- TileLong: the row's closed facts. -/
import Derived.Test.YtneakieigiafpaaGreatDoorCards
import Derived.JoinedOf
namespace Go.Proofs.YtneakieigiafpaaGreatDoor
open Go
set_option maxRecDepth 100000
theorem TileLong.wf0 : Rows.tileLongRow.wf (OpenSpec.ofChange Rows.tileLongSpec) = true := by kernel_rfl
theorem TileLong.lay : laidOutB Tryz.pinned.checked.prog = true := by kernel_rfl
theorem TileLong.map : mapsRowed Tryz.pinned.checked.prog = true := by kernel_rfl
theorem TileLong.tie : namedTie Tryz.pinned.checked.prog Rows.tileLongRow.named Rows.tileLongSpec.vars = true := by kernel_rfl
theorem TileLong.inp : (Rows.tileLongRow.inPlace == Tryz.pinned.checked.prog.inPlace 10) = true := by kernel_rfl
theorem TileLong.unf : (Rows.tileLongRow.unfollowed == Tryz.pinned.checked.prog.unfollowed 10) = true := by kernel_rfl
theorem TileLong.rec : (Rows.tileLongRow.recurses == Tryz.pinned.checked.prog.recurses 10) = true := by kernel_rfl
theorem TileLong.nam : (Rows.tileLongRow.named == Tryz.pinned.checked.prog.varsNamed 10) = true := by kernel_rfl
theorem TileLong.pk : (Rows.tileLongRow.plainKeys == Tryz.pinned.checked.prog.plainKeys) = true := by kernel_rfl
theorem TileLong.sh : Tryz.pinned.checked.prog.stopsHeard = true := by kernel_rfl
theorem TileLong.me : Tryz.pinned.checked.prog.mayEnter = true := by kernel_rfl
theorem TileLong.li : (Rows.tileLongRow.lifted == Tryz.pinned.checked.prog.liftsFinal) = true := by kernel_rfl
theorem TileLong.mk : (Tryz.pinned.checked.prog.make == some Rows.tileLongRow.make) = true := by kernel_rfl
theorem TileLong.facts : joinedFacts Tryz.pinned.checked.prog 10 Tryz.f10 Rows.tileLongSpec Rows.tileLongRow = true := by
  unfold joinedFacts
  rw [TileLong.wf0, TileLong.lay, TileLong.map, TileLong.tie, TileLong.inp, TileLong.unf, TileLong.rec, TileLong.nam, TileLong.pk, TileLong.sh, TileLong.me, TileLong.li, TileLong.mk]
  kernel_rfl
theorem TileLong.wf : Rows.tileLongRow.wfByText (OpenSpec.ofChange Rows.tileLongSpec) = true := by kernel_rfl
theorem TileLong.goes : false = Rows.tileLongRow.goesBy Tryz.pinned.checked.prog := by kernel_rfl
theorem TileLong.named : Tryz.pinned.checked.prog.funcNamed Rows.tileLongRow.func = some 10 := by kernel_rfl
end Go.Proofs.YtneakieigiafpaaGreatDoor
