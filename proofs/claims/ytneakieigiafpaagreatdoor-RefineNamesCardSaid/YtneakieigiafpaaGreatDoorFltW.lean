/- Floats walked: bits.Finite, bits.Up, bits.Down; radii: ball.plus, times, less, lost. -/
import Derived.Test.YtneakieigiafpaaGreatDoorFltE
import Derived.Test.YtneakieigiafpaaGreatDoorMem
import Derived.Test.YtneakieigiafpaaGreatDoorHeld
import Derived.Deep.DeepCutAuto
import Derived.Test.YtneakieigiafpaaGreatDoorRows
namespace Go.Proofs.YtneakieigiafpaaGreatDoor
open Go.RowKit
attribute [local go_sem] run_float_arith run_f64bits run_f64from run_neg_float run_store_float run_store_complex


set_option maxRecDepth 100000 in
set_option maxHeartbeats 400000 in
theorem finite_any (x : Nat) (h : finB x = true) (w : World) : Calls Tryz.prog 164 #[.float .f64 x] w fun e w' => e = .returned (.bool true) ∧ w = w' := by
  obtain ⟨d, hd, h⟩ := (finB_iff h).sub
  go_enter Tryz.func164, Tryz.ntmps164
  go_wp2
  go_ret
  exact ⟨rfl, rfl⟩
set_option maxRecDepth 100000 in
set_option maxHeartbeats 400000 in
theorem isinf_any (x : Nat) (w : World) : Calls Tryz.prog 143 #[.float .f64 x, .int .i64 1] w fun e w' => e = .returned (.bool (posInf x)) ∧ w = w' := by
  unfold posInf ordN MAXF
  cases h : (FloatKind.f64.format.order x 9218868437227405311 == some .gt) <;>
  · go_enter Tryz.func143, Tryz.ntmps143
    go_wp2
    go_ret
    exact ⟨rfl, rfl⟩
set_option maxRecDepth 100000 in
set_option maxHeartbeats 400000 in
theorem up_any (x : Nat) (h : finB x = true) (w : World) : Calls Tryz.prog 140 #[.float .f64 x] w fun e w' => e = .returned (.float .f64 (upN x)) ∧ w = w' := by
  have hE := (finB_iff h).eq
  have hI := (finB_iff h).inf
  have hL := (finB_iff h).lt
  have hB := bits_sign hL
  clear h
  unfold upN
  cases h0 : eq0 x with
  | true =>
    change (FloatKind.f64.format.order x 0 == some .eq) = true at h0
    go_enter Tryz.func140, Tryz.ntmps140
    go_wp2
    go_ret
    exact ⟨rfl, rfl⟩
  | false =>
    change (FloatKind.f64.format.order x 0 == some .eq) = false at h0
    by_cases hs : x < SG
    · rw [if_pos hs] at hB
      rw [if_pos hs]
      have hW : IntKind.u64.wrap ((x : Int) + 1) = (x : Int) + 1 := IntWalk.u64_in _ (by unfold SG at hs; omega)
      have hN : ((x : Int) + 1).toNat = x + 1 := by omega
      clear hs hL
      go_enter Tryz.func140, Tryz.ntmps140
      go_wp2
      go_ret
      exact ⟨rfl, rfl⟩
    · rw [if_neg hs] at hB
      rw [if_neg hs]
      have hW : IntKind.u64.wrap ((x : Int) - 1) = (x : Int) - 1 := IntWalk.u64_in _ (by unfold SG at hs; omega)
      have hN : ((x : Int) - 1).toNat = x - 1 := by omega
      clear hs hL
      go_enter Tryz.func140, Tryz.ntmps140
      go_wp2
      go_ret
      exact ⟨rfl, rfl⟩
set_option maxRecDepth 100000 in
set_option maxHeartbeats 400000 in
theorem abs_any (x : Nat) (h : x < 18446744073709551616) (w : World) : Calls Tryz.prog 210 #[.float .f64 x] w fun e w' => e = .returned (.float .f64 (absN x)) ∧ w = w' := by
  have hB := bits_abs h
  clear h
  go_enter Tryz.func210, Tryz.ntmps210
  go_wp2
  go_ret
  exact ⟨rfl, rfl⟩
set_option maxRecDepth 100000 in
set_option maxHeartbeats 400000 in
theorem plus_any (x y r : Nat) (h : plusO x y = some r) (w : World) : Calls Tryz.prog 222 #[.float .f64 x, .float .f64 y] w fun e w' => e = .returned (.float .f64 r) ∧ w = w' := by
  have CU := hide up_any
  unfold plusO at h
  cases h0 : eq0 x with
  | true =>
    rw [h0, if_pos rfl] at h
    cases h
    change (FloatKind.f64.format.order x 0 == some .eq) = true at h0
    go_enter Tryz.func222, Tryz.ntmps222
    go_wp2
    go_ret
    exact ⟨rfl, rfl⟩
  | false =>
    rw [h0, if_neg (by decide)] at h
    change (FloatKind.f64.format.order x 0 == some .eq) = false at h0
    cases h1 : eq0 y with
    | true =>
      rw [h1, if_pos rfl] at h
      cases h
      change (FloatKind.f64.format.order y 0 == some .eq) = true at h1
      go_enter Tryz.func222, Tryz.ntmps222
      go_wp2
      go_ret
      exact ⟨rfl, rfl⟩
    | false =>
      rw [h1, if_neg (by decide)] at h
      change (FloatKind.f64.format.order y 0 == some .eq) = false at h1
      obtain ⟨s, hs, h⟩ := Option.bind_eq_some_iff.1 h
      change floatBits .add .f64 x y = some s at hs
      split at h
      · rename_i hf
        cases h
        have CV := hide (fun W => CU.out s hf W)
        clear hf CU
        go_enter Tryz.func222, Tryz.ntmps222
        go_wp2_with (go_at_call 140; refine (CV.out _).mono ?_; rintro e w1 ⟨rfl, rfl⟩)
        go_ret
        exact ⟨rfl, rfl⟩
      · cases h
set_option maxRecDepth 100000 in
set_option maxHeartbeats 400000 in
theorem times_any (x y r : Nat) (h : timesO x y = some r) (w : World) : Calls Tryz.prog 223 #[.float .f64 x, .float .f64 y] w fun e w' => e = .returned (.float .f64 r) ∧ w = w' := by
  have CU := hide up_any
  unfold timesO at h
  cases h0 : eq0 x with
  | true =>
    rw [h0, Bool.true_or, if_pos rfl] at h
    cases h
    change (FloatKind.f64.format.order x 0 == some .eq) = true at h0
    go_enter Tryz.func223, Tryz.ntmps223
    go_wp2
    go_ret
    exact ⟨rfl, rfl⟩
  | false =>
    cases h1 : eq0 y with
    | true =>
      rw [h1, Bool.or_true, if_pos rfl] at h
      cases h
      change (FloatKind.f64.format.order x 0 == some .eq) = false at h0
      change (FloatKind.f64.format.order y 0 == some .eq) = true at h1
      go_enter Tryz.func223, Tryz.ntmps223
      go_wp2
      go_ret
      exact ⟨rfl, rfl⟩
    | false =>
      rw [h0, h1, if_neg (by decide)] at h
      change (FloatKind.f64.format.order x 0 == some .eq) = false at h0
      change (FloatKind.f64.format.order y 0 == some .eq) = false at h1
      obtain ⟨s, hs, h⟩ := Option.bind_eq_some_iff.1 h
      change floatBits .mul .f64 x y = some s at hs
      split at h
      · rename_i hf
        cases h
        have CV := hide (fun W => CU.out s hf W)
        clear hf CU
        go_enter Tryz.func223, Tryz.ntmps223
        go_wp2_with (go_at_call 140; refine (CV.out _).mono ?_; rintro e w1 ⟨rfl, rfl⟩)
        go_ret
        exact ⟨rfl, rfl⟩
      · cases h
end Go.Proofs.YtneakieigiafpaaGreatDoor
