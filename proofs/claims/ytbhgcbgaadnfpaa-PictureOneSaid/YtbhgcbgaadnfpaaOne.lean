/- PictureOne, of every two pictures and numbers: Check, At, Rows (three rounds, left early or not), Count and Same tell what the document says; what comes in reads as it did. No condition. -/
import Derived.Test.YtbhgcbgaadnfpaaOneL
import Derived.Test.YtbhgcbgaadnfpaaOpenC
import Derived.ChangeMaps5
namespace Go.Proofs.Ytbhgcbgaadnfpaa
open Go.ChangeShapes Go.WideShapes Go.ChangeAt Go.RowKit Go.Joins

theorem PictureOne.own : ownKnob Try.prog.godebug = none := by kernel_rfl
theorem PictureOne.laidOut : laidOutB Try.prog = true := by kernel_rfl
theorem PictureOne.cellsP : Try.prog.cellsOf 24 = 3 := by kernel_rfl

set_option maxRecDepth 100000 in
set_option maxHeartbeats 800000 in
theorem PictureOne.lifted (os : Os) (started : os.Started) (H : Type) (enc : TypeId × Value → H) :
    ReturnsInHanded {} Try.checked os 6 .any (Rows.pictureOneSpec.pre6 enc Try.prog Try.f6 Rows.pictureOneRow.domain false) (Rows.pictureOneSpec.post enc Try.prog Try.f6 false true false false) := by
  refine returnsInHanded_of_change_sized (C := Try.checked) PictureOne.own started (by kernel_rfl) Try.func6
    (ChangeSpec.witness6 (enc := enc) (C := Try.checked) false ⟨#[], #[.agg #[.int .i64 0, .int .i64 0, .slice none 0 0], .agg #[.int .i64 0, .int .i64 0, .slice none 0 0], .int .i64 0, .int .i64 0, .int .i64 0], []⟩ 8 (by kernel_rfl) (by kernel_rfl) (by kernel_rfl) (by kernel_rfl)) ?_
  intro W base args ds gs before hval0 hW hcnd hsz _
  have hval : ∀ (j : Nat) t v, Try.f6.params[j]? = some t → args[j]? = some v → Value.okWide Try.prog W .any base t v := hval0
  have hW' := hW
  obtain ⟨p, q, hA0, hV, rfl, hfz, hnd⟩ := hW
  have hA : DataW.TrodAll enc Try.prog W 0 (fun _ => true) true Try.f6.params.toList args.toList ds p := hA0
  rw [Try.params6] at hA hval
  obtain ⟨v0, vs0, d0, ds0, p0, q0, hargs, rfl, rfl, h0, r0⟩ := trodAll_cons hA
  obtain ⟨v1, vs1, d1, ds1, p1, q1, rfl, rfl, rfl, h1, r1⟩ := trodAll_cons r0
  obtain ⟨v2, vs2, d2, ds2, p2, q2, rfl, rfl, rfl, h2, r2⟩ := trodAll_cons r1
  obtain ⟨v3, vs3, d3, ds3, p3, q3, rfl, rfl, rfl, h3, r3⟩ := trodAll_cons r2
  obtain ⟨v4, vs4, d4, ds4, p4, q4, rfl, rfl, rfl, h4, r4⟩ := trodAll_cons r3
  obtain ⟨rfl, rfl, rfl⟩ := trodAll_nil r4
  obtain rfl : args = #[v0, v1, v2, v3, v4] := by cases args; simp_all
  obtain ⟨rfl, rfl⟩ := trodVars_none hV
  have k0 := h0
  have k1 := h1
  have k2 := h2
  have k3 := h3
  have k4 := h4
  have lt0 : ∀ x ∈ p0, x.block < W.heap.size := by obtain ⟨m, hm⟩ := k0; exact DataW.trod_lt m _ _ _ hm
  have lt1 : ∀ x ∈ p1, x.block < W.heap.size := by obtain ⟨m, hm⟩ := k1; exact DataW.trod_lt m _ _ _ hm
  have lt2 : ∀ x ∈ p2, x.block < W.heap.size := by obtain ⟨m, hm⟩ := k2; exact DataW.trod_lt m _ _ _ hm
  have lt3 : ∀ x ∈ p3, x.block < W.heap.size := by obtain ⟨m, hm⟩ := k3; exact DataW.trod_lt m _ _ _ hm
  have lt4 : ∀ x ∈ p4, x.block < W.heap.size := by obtain ⟨m, hm⟩ := k4; exact DataW.trod_lt m _ _ _ hm
  obtain ⟨a00, a01, a02, y00, y01, y02, f0, rfl, hd0, -, hy00, hy01, hy02⟩ := open_agg3 Try.underlying24 (by kernel_rfl) PictureOne.cellsP (hval 0 24 _ rfl rfl) h0
  obtain ⟨x00, e00, -, wx00⟩ := DataW.trod_int Try.underlying3 hy00
  obtain ⟨x01, e01, -, wx01⟩ := DataW.trod_int Try.underlying3 hy01
  obtain ⟨A0, n0, c0, g0, rfl, hnc0, hcm0, hl0, hr0, hx0⟩ := open_bytes2 hy02
  have RN0 := pic_reach hsz (j := 0) (by rw [Try.params6]; rfl) (by rw [hd0]; rfl) hx0
  obtain ⟨a10, a11, a12, y10, y11, y12, f1, rfl, hd1, -, hy10, hy11, hy12⟩ := open_agg3 Try.underlying24 (by kernel_rfl) PictureOne.cellsP (hval 1 24 _ rfl rfl) h1
  obtain ⟨x10, e10, -, wx10⟩ := DataW.trod_int Try.underlying3 hy10
  obtain ⟨x11, e11, -, wx11⟩ := DataW.trod_int Try.underlying3 hy11
  obtain ⟨A1, n1, c1, g1, rfl, hnc1, hcm1, hl1, hr1, hx1⟩ := open_bytes2 hy12
  have RN1 := pic_reach hsz (j := 1) (by rw [Try.params6]; rfl) (by rw [hd1]; rfl) hx1
  obtain ⟨x2, rfl, -, -, wx2⟩ := open_int Try.underlying3 (hval 2 3 _ rfl rfl) h2
  obtain ⟨x3, rfl, -, -, wx3⟩ := open_int Try.underlying3 (hval 3 3 _ rfl rfl) h3
  obtain ⟨x4, rfl, -, -, wx4⟩ := open_int Try.underlying3 (hval 4 3 _ rfl rfl) h4
  simp at e00 e01 e10 e11
  subst e00 e01 e10 e11
  clear hA0 hval0
  have hmx : maxLen ≤ 9223372036854775807 := by simp [maxLen]
  have bx00 := bounds_i64 wx00
  have bx01 := bounds_i64 wx01
  have HP0 : PicAt W ⟨x00, x01, g0⟩ A0 n0 c0 := ⟨hl0, hnc0, by omega, hr0, bx00.1, bx00.2, bx01.1, bx01.2⟩
  have bx10 := bounds_i64 wx10
  have bx11 := bounds_i64 wx11
  have HP1 : PicAt W ⟨x10, x11, g1⟩ A1 n1 c1 := ⟨hl1, hnc1, by omega, hr1, bx10.1, bx10.2, bx11.1, bx11.2⟩
  have bx2 := bounds_i64 wx2
  have bx3 := bounds_i64 wx3
  have bx4 := bounds_i64 wx4
  refine (one_any ⟨x00, x01, g0⟩ ⟨x10, x11, g1⟩ A0 A1 n0 c0 n1 c1 x2 x3 x4 W HP0 HP1 RN0 bx4).mono fun e W' ⟨he, bel⟩ => ?_
  subst he
  exact ⟨_, rfl, _, _, _, [], _, [], hW', trodAll_mk1 (shut_bool Try.underlying4 _),
    (trodAll_cons_mk (Below.trod PictureOne.laidOut (by kernel_rfl) (of_decide_eq_true (by kernel_rfl)) k0 bel lt0) (trodAll_cons_mk (Below.trod PictureOne.laidOut (by kernel_rfl) (of_decide_eq_true (by kernel_rfl)) k1 bel lt1) (trodAll_cons_mk (Below.trod PictureOne.laidOut (by kernel_rfl) (of_decide_eq_true (by kernel_rfl)) k2 bel lt2) (trodAll_cons_mk (Below.trod PictureOne.laidOut (by kernel_rfl) (of_decide_eq_true (by kernel_rfl)) k3 bel lt3) (trodAll_cons_mk (Below.trod PictureOne.laidOut (by kernel_rfl) (of_decide_eq_true (by kernel_rfl)) k4 bel lt4) trodAll_mk0))))),
    rfl, bel.frame _, fun h => by cases h⟩

theorem PictureOne.over : Rows.pictureOneRow.holds Try.pinned (OpenSpec.ofChange Rows.pictureOneSpec) :=
  OpenClaim.holds_of_wide 6 Try.f6 rfl rfl rfl rfl rfl rfl rfl ⟨rfl, rfl, rfl, rfl, rfl⟩ rfl rfl rfl rfl rfl (by kernel_rfl) Try.func6 (by kernel_rfl)
    (of_decide_eq_true (by kernel_rfl)) (by unfold Func.isWrapper; first | (rw [if_pos (by decide +kernel)]; kernel_rfl) | (rw [if_neg (by decide +kernel)]; exact ⟨rfl, rfl⟩))
    (fun os started H enc _ => PictureOne.lifted os started H enc)

theorem pictureOne_proved : Rows.PictureOneSaid := PictureOne.over
#print axioms pictureOne_proved
end Go.Proofs.Ytbhgcbgaadnfpaa
