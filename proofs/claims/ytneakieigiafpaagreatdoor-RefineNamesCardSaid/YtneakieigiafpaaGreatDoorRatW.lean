/- Maps that may be: ratmap.Check, ratmap.one, walked. -/
import Derived.Test.YtneakieigiafpaaGreatDoorSlpW
namespace Go.Proofs.YtneakieigiafpaaGreatDoor
open Go.RowKit
attribute [local go_sem] run_float_arith run_f64bits run_f64from run_neg_float run_store_float run_store_complex

set_option maxRecDepth 100000 in
set_option maxHeartbeats 800000 in
theorem rcheck_any (p q : List Co) (hp : OkP p) (hq : OkP q) (A B : Option Addr) (c d : Nat) (w : World) (hr : Row w A (p.map Co.v)) (hs : Row w B (q.map Co.v)) :
    Calls Tryz.prog 68 #[.agg #[.slice A p.length c, .slice B q.length d]] w fun e w' => e = .returned (.int .i64 0) ∧ Kept w w' := by
  have C1 := hide (fun (W : World) (h : Row W A (p.map Co.v)) => pcheck_any p hp A c W h)
  have C2 := hide (fun (W : World) (h : Row W B (q.map Co.v)) => pcheck_any q hq B d W h)
  have h1 : ((p.length : Int) == 0) = false := by have := hp.pos; rw [beq_eq_false_iff_ne]; omega
  have h2 : ((q.length : Int) == 0) = false := by have := hq.pos; rw [beq_eq_false_iff_ne]; omega
  have HR := hide hr
  have HS := hide hs
  clear hp hq hr hs
  generalize p.length = n at *
  generalize q.length = m at *
  generalize p.map Co.v = xs at *
  generalize q.map Co.v = ys at *
  go_enter Tryz.func68, Tryz.ntmps68
  go_wp2_with fail
  refine (C1.out _ (HR.out.alloc _)).mono ?_
  rintro e w1 ⟨rfl, rfl⟩
  go_wp2_with fail
  refine (C2.out _ (HS.out.alloc _)).mono ?_
  rintro e w1 ⟨rfl, rfl⟩
  go_wp2_with fail
  go_ret
  exact ⟨rfl, (Below.refl _ w).alloc (Nat.le_refl _) _⟩
set_option maxRecDepth 100000 in
set_option maxHeartbeats 400000 in
theorem one_any (B : Option Addr) (d : Nat) (w : World) (hs : Row w B (List.map Co.v [⟨ONE, 0⟩])) :
    Calls Tryz.prog 262 #[.slice B 1 d] w fun e w' => e = .returned (.bool true) ∧ w = w' := by
  obtain ⟨b, off, rfl, hc⟩ := hs.at_ (k := 0) (by simp)
  have c0 : w.cell? ⟨b, off, none⟩ = some (.complex .f64 4607182418800017408 0) := hc
  have o1 : (FloatKind.f64.format.order 4607182418800017408 4607182418800017408 == some .eq) = true := by kernel_rfl
  have o2 : (FloatKind.f64.format.order 0 0 == some .eq) = true := by kernel_rfl
  clear hc hs
  go_enter Tryz.func262, Tryz.ntmps262
  go_wp2
  go_ret
  exact ⟨rfl, rfl⟩
end Go.Proofs.YtneakieigiafpaaGreatDoor
