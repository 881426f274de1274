/- StoreNone, run by the kernel at any arguments: it looks at none of them and answers true. -/
import Derived.Test.YtneakieigiafpaaGreatDoorItS
import Derived.Test.YtneakieigiafpaaGreatDoorSymV
import Derived.KernelRfl
namespace Go.Proofs.YtneakieigiafpaaGreatDoor
open Go.Ex Go.RowKit
set_option maxRecDepth 100000
theorem storeNone_run (x0_0 : Bool) (x0_1 : ByteArray) (x0_2 : Int) (x0_3 : Bool) (x0_4 : ByteArray) (x0_5 : Int) (x0_6 : Int) (x0_7 : Int) (x0_8 : Int) (x0_9 : Int) (x0_10 : Int) : saysTrue (exRunI Tryz.prog (oraM tS) itsR 3000 11 [aggV [.bool x0_0, .string x0_1, .int .i64 x0_2, .bool x0_3, .string x0_4, .int .i64 x0_5, .int .i64 x0_6, .int .i64 x0_7, .int .i64 x0_8, .int .i64 x0_9, .int .i64 x0_10]] laidH) = true := by kernel_rfl
theorem storeNone_any (x0_0 : Bool) (x0_1 : ByteArray) (x0_2 : Int) (x0_3 : Bool) (x0_4 : ByteArray) (x0_5 : Int) (x0_6 : Int) (x0_7 : Int) (x0_8 : Int) (x0_9 : Int) (x0_10 : Int) {w : World} (hh : HpOK id0 4096 laidH w) : Calls Tryz.prog 11 #[.agg #[.bool x0_0, .string x0_1, .int .i64 x0_2, .bool x0_3, .string x0_4, .int .i64 x0_5, .int .i64 x0_6, .int .i64 x0_7, .int .i64 x0_8, .int .i64 x0_9, .int .i64 x0_10]] w fun e w' => e = .returned (.bool true) ∧ Below w.heap.size w w' := by
  have := run_trueI (fn := Tryz.f11) tS_ok itsR_ok (storeNone_run x0_0 x0_1 x0_2 x0_3 x0_4 x0_5 x0_6 x0_7 x0_8 x0_9 x0_10) Tryz.func11 rfl (by kernel_rfl) hh (fun x hx => by
    simp only [List.mem_cons, List.not_mem_nil, or_false] at hx
    rcases hx with rfl <;> exact aggV_sc _ _)
  simpa only [List.map_cons, List.map_nil, aggV_conc] using this
end Go.Proofs.YtneakieigiafpaaGreatDoor
