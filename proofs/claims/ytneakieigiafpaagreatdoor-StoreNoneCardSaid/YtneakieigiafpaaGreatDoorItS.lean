/- The runner with tile.Rects and store.Read's deferred call told; the table of the call behind 'is there a judge'. -/
import Derived.Test.YtneakieigiafpaaGreatDoorExT
import Derived.Test.YtneakieigiafpaaGreatDoorItR
namespace Go.Proofs.YtneakieigiafpaaGreatDoor
open Go.Ex Go.RowKit
set_option maxRecDepth 100000
noncomputable def itsR : Its := ⟨itR, readQ⟩
theorem itsR_ok : ItsOK Tryz.prog itsR := ⟨itR_ok, readQ_ok⟩
def thereZero : En := ⟨200, [.agg #[.complex .f64 0 0, .float .f64 0], .float .f64 4611686018427387906], [.bool false, .int .i64 (.ofNat 0)]⟩
theorem thereZero_r : runsTo [] thereZero = true := by decide +kernel
def tS : List En := [thereZero]
theorem tS_ok : ∀ e ∈ tS, EnOK e := all_cons (runsTo_ok all_nil thereZero_r) all_nil
end Go.Proofs.YtneakieigiafpaaGreatDoor
