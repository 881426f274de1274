/- Calls behind the lives of layer 25: balls against the escape radius; lives itself answers true. -/
import Derived.Test.YtneakieigiafpaaGreatDoorCovTB
namespace Go.Proofs.YtneakieigiafpaaGreatDoor
open Go.Ex Go.RowKit
set_option maxRecDepth 100000
def livZero : En := ⟨200, [.agg #[.complex .f64 0 0, .float .f64 0], .float .f64 4611686018427387906], [.bool false, .int .i64 (.ofNat 0)]⟩
theorem livZero_r : runsTo [] livZero = true := by decide +kernel
def livFar : En := ⟨200, [.agg #[.complex .f64 13850820653977960448 4627448617123184640, .float .f64 4622558669727284173], .float .f64 4611686018427387906], [.bool true, .int .i64 (.ofNat 0)]⟩
theorem livFar_r : runsTo [] livFar = true := by decide +kernel
def tT : List En := [livZero, livFar, covTCover]
theorem tT_ok : ∀ e ∈ tT, EnOK e := all_cons (runsTo_ok all_nil livZero_r) <| all_cons (runsTo_ok all_nil livFar_r) <| all_cons covTCover_ok all_nil
theorem lives_run : saysTrue (exRun Tryz.prog (oraM tT) 3000 15 [] laidH) = true := by decide +kernel
theorem lives_any {w : World} (hh : HpOK id0 4096 laidH w) : Calls Tryz.prog 15 #[] w fun e w' => e = .returned (.bool true) ∧ Below w.heap.size w w' :=
  run_trueM (fn := Tryz.f15) (args := []) tT_ok lives_run Tryz.func15 rfl (by kernel_rfl) hh (fun x hx => by cases hx)
end Go.Proofs.YtneakieigiafpaaGreatDoor
