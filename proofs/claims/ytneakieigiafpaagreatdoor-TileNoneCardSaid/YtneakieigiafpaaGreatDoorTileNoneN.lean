/- TileNone, run by the kernel at any arguments: it looks at none of them and answers true. -/
import Derived.Test.YtneakieigiafpaaGreatDoorLivT
import Derived.Test.YtneakieigiafpaaGreatDoorSymV
import Derived.KernelRfl
namespace Go.Proofs.YtneakieigiafpaaGreatDoor
open Go.Ex Go.RowKit
set_option maxRecDepth 100000
theorem tileNone_run (x0_0 : Bool) (x0_1 : ByteArray) (x0_2 : Int) (x0_3 : Bool) (x0_4 : ByteArray) (x0_5 : Int) (x0_6 : Int) (x0_7 : Int) (x0_8 : Int) (x1_0 : Int) (x1_1 : Int) (x1_2 : Int) (x1_3 : Int) (x2_0 : Int) (x2_1 : Int) (x2_2 : Int) (x2_3 : Int) (x2_4 : Option Addr) (x2_5 : Nat) (x2_6 : Nat) : saysTrue (exRun Tryz.prog (oraM tT) 3000 9 [aggV [.bool x0_0, .string x0_1, .int .i64 x0_2, .bool x0_3, .string x0_4, .int .i64 x0_5, .int .i64 x0_6, .int .i64 x0_7, .int .i64 x0_8], aggV [.int .i64 x1_0, .int .i64 x1_1, .int .i64 x1_2, .int .i64 x1_3], aggV [.int .i64 x2_0, .int .i64 x2_1, .int .i64 x2_2, .int .i64 x2_3, .slice x2_4 x2_5 x2_6]] laidH) = true := by kernel_rfl
theorem tileNone_any (x0_0 : Bool) (x0_1 : ByteArray) (x0_2 : Int) (x0_3 : Bool) (x0_4 : ByteArray) (x0_5 : Int) (x0_6 : Int) (x0_7 : Int) (x0_8 : Int) (x1_0 : Int) (x1_1 : Int) (x1_2 : Int) (x1_3 : Int) (x2_0 : Int) (x2_1 : Int) (x2_2 : Int) (x2_3 : Int) (x2_4 : Option Addr) (x2_5 : Nat) (x2_6 : Nat) {w : World} (hh : HpOK id0 4096 laidH w) : Calls Tryz.prog 9 #[.agg #[.bool x0_0, .string x0_1, .int .i64 x0_2, .bool x0_3, .string x0_4, .int .i64 x0_5, .int .i64 x0_6, .int .i64 x0_7, .int .i64 x0_8], .agg #[.int .i64 x1_0, .int .i64 x1_1, .int .i64 x1_2, .int .i64 x1_3], .agg #[.int .i64 x2_0, .int .i64 x2_1, .int .i64 x2_2, .int .i64 x2_3, .slice x2_4 x2_5 x2_6]] w fun e w' => e = .returned (.bool true) ∧ Below w.heap.size w w' := by
  have := run_trueM (fn := Tryz.f9) tT_ok (tileNone_run x0_0 x0_1 x0_2 x0_3 x0_4 x0_5 x0_6 x0_7 x0_8 x1_0 x1_1 x1_2 x1_3 x2_0 x2_1 x2_2 x2_3 x2_4 x2_5 x2_6) Tryz.func9 rfl (by kernel_rfl) hh (fun x hx => by
    simp only [List.mem_cons, List.not_mem_nil, or_false] at hx
    rcases hx with rfl | rfl | rfl <;> exact aggV_sc _ _)
  simpa only [List.map_cons, List.map_nil, aggV_conc] using this
end Go.Proofs.YtneakieigiafpaaGreatDoor
