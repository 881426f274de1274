/- PictureCuts, of every picture and number: cut along a line and put together again it is the picture; what comes in reads as it did. No condition. -/
import Derived.Test.YtbhgcbgaadnfpaaCutsL
import Derived.Test.YtbhgcbgaadnfpaaOpenC
import Derived.ChangeMaps5
namespace Go.Proofs.Ytbhgcbgaadnfpaa
open Go.ChangeShapes Go.WideShapes Go.ChangeAt Go.RowKit Go.Joins

theorem PictureCuts.own : ownKnob Try.prog.godebug = none := by kernel_rfl
theorem PictureCuts.laidOut : laidOutB Try.prog = true := by kernel_rfl
theorem PictureCuts.cellsP : Try.prog.cellsOf 24 = 3 := by kernel_rfl

set_option maxRecDepth 100000 in
set_option maxHeartbeats 800000 in
theorem PictureCuts.lifted (os : Os) (started : os.Started) (H : Type) (enc : TypeId × Value → H) :
    ReturnsInHanded {} Try.checked os 8 .any (Rows.pictureCutsSpec.pre6 enc Try.prog Try.f8 Rows.pictureCutsRow.domain false) (Rows.pictureCutsSpec.post enc Try.prog Try.f8 false true false false) := by
  refine returnsInHanded_of_change_sized (C := Try.checked) PictureCuts.own started (by kernel_rfl) Try.func8
    (ChangeSpec.witness6 (enc := enc) (C := Try.checked) false ⟨#[], #[.agg #[.int .i64 0, .int .i64 0, .slice none 0 0], .int .i64 0], []⟩ 8 (by kernel_rfl) (by kernel_rfl) (by kernel_rfl) (by kernel_rfl)) ?_
  intro W base args ds gs before hval0 hW hcnd hsz _
  have hval : ∀ (j : Nat) t v, Try.f8.params[j]? = some t → args[j]? = some v → Value.okWide Try.prog W .any base t v := hval0
  have hW' := hW
  obtain ⟨p, q, hA0, hV, rfl, hfz, hnd⟩ := hW
  have hA : DataW.TrodAll enc Try.prog W 0 (fun _ => true) true Try.f8.params.toList args.toList ds p := hA0
  rw [Try.params8] at hA hval
  obtain ⟨v0, vs0, d0, ds0, p0, q0, hargs, rfl, rfl, h0, r0⟩ := trodAll_cons hA
  obtain ⟨v1, vs1, d1, ds1, p1, q1, rfl, rfl, rfl, h1, r1⟩ := trodAll_cons r0
  obtain ⟨rfl, rfl, rfl⟩ := trodAll_nil r1
  obtain rfl : args = #[v0, v1] := by cases args; simp_all
  obtain ⟨rfl, rfl⟩ := trodVars_none hV
  have k0 := h0
  have k1 := h1
  have lt0 : ∀ x ∈ p0, x.block < W.heap.size := by obtain ⟨m, hm⟩ := k0; exact DataW.trod_lt m _ _ _ hm
  have lt1 : ∀ x ∈ p1, x.block < W.heap.size := by obtain ⟨m, hm⟩ := k1; exact DataW.trod_lt m _ _ _ hm
  obtain ⟨a00, a01, a02, y00, y01, y02, f0, rfl, hd0, -, hy00, hy01, hy02⟩ := open_agg3 Try.underlying24 (by kernel_rfl) PictureCuts.cellsP (hval 0 24 _ rfl rfl) h0
  obtain ⟨x00, e00, -, wx00⟩ := DataW.trod_int Try.underlying3 hy00
  obtain ⟨x01, e01, -, wx01⟩ := DataW.trod_int Try.underlying3 hy01
  obtain ⟨A0, n0, c0, g0, rfl, hnc0, hcm0, hl0, hr0, hx0⟩ := open_bytes2 hy02
  have RN0 := pic_reach hsz (j := 0) (by rw [Try.params8]; rfl) (by rw [hd0]; rfl) hx0
  obtain ⟨x1, rfl, -, -, wx1⟩ := open_int Try.underlying3 (hval 1 3 _ rfl rfl) h1
  simp at e00 e01
  subst e00 e01
  clear hA0 hval0
  have hmx : maxLen ≤ 9223372036854775807 := by simp [maxLen]
  have bx00 := bounds_i64 wx00
  have bx01 := bounds_i64 wx01
  have HP0 : PicAt W ⟨x00, x01, g0⟩ A0 n0 c0 := ⟨hl0, hnc0, by omega, hr0, bx00.1, bx00.2, bx01.1, bx01.2⟩
  have bx1 := bounds_i64 wx1
  refine (cuts_any ⟨x00, x01, g0⟩ A0 n0 c0 x1 W HP0 bx1.1 bx1.2).mono fun e W' ⟨he, bel⟩ => ?_
  subst he
  exact ⟨_, rfl, _, _, _, [], _, [], hW', trodAll_mk1 (shut_bool Try.underlying4 _),
    (trodAll_cons_mk (Below.trod PictureCuts.laidOut (by kernel_rfl) (of_decide_eq_true (by kernel_rfl)) k0 bel lt0) (trodAll_cons_mk (Below.trod PictureCuts.laidOut (by kernel_rfl) (of_decide_eq_true (by kernel_rfl)) k1 bel lt1) trodAll_mk0)),
    rfl, bel.frame _, fun h => by cases h⟩

theorem PictureCuts.over : Rows.pictureCutsRow.holds Try.pinned (OpenSpec.ofChange Rows.pictureCutsSpec) :=
  OpenClaim.holds_of_wide 8 Try.f8 rfl rfl rfl rfl rfl rfl rfl ⟨rfl, rfl, rfl, rfl, rfl⟩ rfl rfl rfl rfl rfl (by kernel_rfl) Try.func8 (by kernel_rfl)
    (of_decide_eq_true (by kernel_rfl)) (by unfold Func.isWrapper; first | (rw [if_pos (by decide +kernel)]; kernel_rfl) | (rw [if_neg (by decide +kernel)]; exact ⟨rfl, rfl⟩))
    (fun os started H enc _ => PictureCuts.lifted os started H enc)

theorem pictureCuts_proved : Rows.PictureCutsSaid := PictureCuts.over
#print axioms pictureCuts_proved
end Go.Proofs.Ytbhgcbgaadnfpaa
