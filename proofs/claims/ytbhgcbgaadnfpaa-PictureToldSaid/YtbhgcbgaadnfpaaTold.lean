/- PictureTold, of every witness: a grey tells what the witness told; the witness reads as it did. No condition. -/
import Derived.Test.YtbhgcbgaadnfpaaPicY
import Derived.ProofKit
import Derived.OpenShut
import Derived.ShutString
import Derived.ChangeOld
import Derived.Lib.SmallJoins
namespace Go.Proofs.Ytbhgcbgaadnfpaa
open Go.ChangeShapes Go.WideShapes Go.ChangeAt Go.RowKit Go.Joins

theorem told_shade (t s : Int) (h0 : 0 ≤ t) : toldB (shadeI t s) = true ∧ toldI (shadeI t s) = (if t > 2 then 0 else t) ∧ 0 ≤ shadeI t s ∧ shadeI t s ≤ 255 := by
  by_cases h1 : t = 1
  · have e : shadeI t s = min (max 0 s) 100 := by simp [shadeI, h1]
    rw [e]
    refine ⟨?_, ?_, by omega, by omega⟩
    · simp only [toldB, Bool.or_eq_true, decide_eq_true_eq]; omega
    · unfold toldI; rw [if_pos (by omega), if_neg (by omega), h1]
  · by_cases h2 : t = 2
    · have e : shadeI t s = 255 - min (max 0 s) 100 := by simp [shadeI, h2]
      rw [e]
      refine ⟨?_, ?_, by omega, by omega⟩
      · simp only [toldB, Bool.or_eq_true, decide_eq_true_eq]; omega
      · unfold toldI; rw [if_neg (by omega), if_pos (by omega), if_neg (by omega), h2]
    · have e : shadeI t s = 128 := by simp [shadeI, h1, h2]
      rw [e]
      refine ⟨by decide, ?_, by omega, by omega⟩
      rw [show toldI 128 = 0 from by decide]
      split <;> omega

set_option maxRecDepth 100000 in
set_option maxHeartbeats 800000 in
theorem toldLaw (t s r : Int) (w : World) (h0 : 0 ≤ t) (h1 : t ≤ 255) (h2 : -9223372036854775808 ≤ s) (h3 : s ≤ 9223372036854775807) :
    Calls Try.prog 5 #[.agg #[.int .u8 t, .int .i64 s, .int .i64 r]] w fun e w' => e = .returned (.bool true) ∧ Kept w w' := by
  obtain ⟨e1, e2, e3, e4⟩ := told_shade t s h0
  have cs := fun W => shade_any t s r W h0 h1 h2 h3
  have ct := fun W => told_any (shadeI t s) W e3 e4
  rw [e1, e2] at ct
  generalize shadeI t s = g at *
  have CS := hide cs
  have CT := hide ct
  clear cs ct e1 e2
  by_cases hb : t > 2
  · have CT2 : Hid (∀ W, Calls Try.prog 22 #[.int .u8 g] W fun e w' => e = .returned (.tuple #[.int .u8 0, .bool true]) ∧ W = w') := by
      intro W; have := CT.out W; rwa [if_pos hb] at this
    have hb' : (2 : Int) < t := hb
    clear CT
    go_enter Try.func5, Try.ntmps5
    go_wp2_with (first
      | (go_at_call 23; refine (CS.out _).mono ?_; rintro e w1 ⟨rfl, hk1⟩; have hc1 := hk1.cells; have hz := hk1.size; simp at hz)
      | (go_at_call 22; refine (CT2.out _).mono ?_; rintro e w2 ⟨rfl, rfl⟩)
      | (go_at_call 19; refine (awake_any _).mono ?_; rintro e w3 ⟨rfl, hk3⟩))
    go_ret
    exact ⟨rfl, ((Below.refl _ _).alloc (Nat.le_refl _) _).trans ((hk1.mono (by simp)).trans (hk3.mono (by omega)))⟩
  · have CT2 : Hid (∀ W, Calls Try.prog 22 #[.int .u8 g] W fun e w' => e = .returned (.tuple #[.int .u8 t, .bool true]) ∧ W = w') := by
      intro W; have := CT.out W; rwa [if_neg hb] at this
    clear CT
    go_enter Try.func5, Try.ntmps5
    go_wp2_with (first
      | (go_at_call 23; refine (CS.out _).mono ?_; rintro e w1 ⟨rfl, hk1⟩; have hc1 := hk1.cells; have hz := hk1.size; simp at hz)
      | (go_at_call 22; refine (CT2.out _).mono ?_; rintro e w2 ⟨rfl, rfl⟩)
      | (go_at_call 19; refine (awake_any _).mono ?_; rintro e w3 ⟨rfl, hk3⟩))
    go_ret
    exact ⟨rfl, ((Below.refl _ _).alloc (Nat.le_refl _) _).trans ((hk1.mono (by simp)).trans (hk3.mono (by omega)))⟩

theorem PictureTold.own : ownKnob Try.prog.godebug = none := by kernel_rfl
theorem laidOut : laidOutB Try.prog = true := by kernel_rfl
theorem cellsW : Try.prog.cellsOf 43 = 3 := by kernel_rfl

set_option maxRecDepth 100000 in
theorem PictureTold.lifted (os : Os) (started : os.Started) (H : Type) (enc : TypeId × Value → H) :
    ReturnsInHanded {} Try.checked os 5 .any (Rows.pictureToldSpec.pre6 enc Try.prog Try.f5 Rows.pictureToldRow.domain false) (Rows.pictureToldSpec.post enc Try.prog Try.f5 false true false false) := by
  refine returnsInHanded_of_change (C := Try.checked) PictureTold.own started (by kernel_rfl) Try.func5
    (ChangeSpec.witness6 (enc := enc) (C := Try.checked) false ⟨#[], #[.agg #[.int .u8 0, .int .i64 0, .int .i64 0]], []⟩ 8 (by kernel_rfl) (by kernel_rfl) (by kernel_rfl) (by kernel_rfl)) ?_
  intro W base args ds gs before hval0 hW hcnd _
  have hval : ∀ (j : Nat) t v, Try.f5.params[j]? = some t → args[j]? = some v → Value.okWide Try.prog W .any base t v := hval0
  have hW' := hW
  obtain ⟨p, q, hA0, hV, rfl, hfz, hnd⟩ := hW
  have hA : DataW.TrodAll enc Try.prog W 0 (fun _ => true) true Try.f5.params.toList args.toList ds p := hA0
  rw [Try.params5] at hA hval
  obtain ⟨v0, vs0, d0, ds0, p0, q0, hargs, rfl, rfl, h0, r0⟩ := trodAll_cons hA
  obtain ⟨rfl, rfl, rfl⟩ := trodAll_nil r0
  obtain rfl : args = #[v0] := by cases args; simp_all
  obtain ⟨rfl, rfl⟩ := trodVars_none hV
  have k0 := h0
  have lt0 : ∀ x ∈ p0, x.block < W.heap.size := by obtain ⟨m, hm⟩ := k0; exact DataW.trod_lt m _ _ _ hm
  obtain ⟨c0, c1, c2, y0, y1, y2, n, rfl, rfl, rfl, hy0, hy1, hy2⟩ := open_agg3 Try.underlying43 (by kernel_rfl) cellsW (hval 0 43 _ rfl rfl) h0
  obtain ⟨a0, e0, rfl, wa0⟩ := DataW.trod_int Try.underlying41 hy0
  obtain ⟨a1, e1, rfl, wa1⟩ := DataW.trod_int Try.underlying3 hy1
  obtain ⟨a2, e2, rfl, wa2⟩ := DataW.trod_int Try.underlying3 hy2
  simp at e0 e1 e2
  subst e0 e1 e2
  clear hA0 hval0
  have b0 := bounds_u8 wa0
  have b1 := bounds_i64 wa1
  refine (toldLaw a0 a1 a2 W b0.1 b0.2 b1.1 b1.2).mono fun e W' ⟨he, bel⟩ => ?_
  subst he
  exact ⟨_, rfl, _, _, _, [], _, [], hW', trodAll_mk1 (shut_bool Try.underlying4 _), (trodAll_cons_mk (Below.trod laidOut (by kernel_rfl) (of_decide_eq_true (by kernel_rfl)) k0 bel lt0) trodAll_mk0), rfl, bel.frame _, fun h => by cases h⟩

theorem PictureTold.over : Rows.pictureToldRow.holds Try.pinned (OpenSpec.ofChange Rows.pictureToldSpec) :=
  OpenClaim.holds_of_wide 5 Try.f5 rfl rfl rfl rfl rfl rfl rfl ⟨rfl, rfl, rfl, rfl, rfl⟩ rfl rfl rfl rfl rfl (by kernel_rfl) Try.func5 (by kernel_rfl)
    (of_decide_eq_true (by kernel_rfl)) (by unfold Func.isWrapper; first | (rw [if_pos (by decide +kernel)]; kernel_rfl) | (rw [if_neg (by decide +kernel)]; exact ⟨rfl, rfl⟩))
    (fun os started H enc _ => PictureTold.lifted os started H enc)

theorem pictureTold_proved : Rows.PictureToldSaid := PictureTold.over
#print axioms pictureTold_proved
end Go.Proofs.Ytbhgcbgaadnfpaa
