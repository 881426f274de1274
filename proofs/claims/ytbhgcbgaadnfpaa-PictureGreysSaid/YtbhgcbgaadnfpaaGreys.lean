/- PictureGreys, of every witness, grey and tile: shades, what a grey tells and the picture of a tile are what the document says, in new memory; what comes in reads as it did. No condition. -/
import Derived.Test.YtbhgcbgaadnfpaaGreysL
import Derived.Test.YtbhgcbgaadnfpaaOpenT
import Derived.ChangeMaps5
namespace Go.Proofs.Ytbhgcbgaadnfpaa
open Go.ChangeShapes Go.WideShapes Go.ChangeAt Go.RowKit Go.Joins

theorem PictureGreys.own : ownKnob Try.prog.godebug = none := by kernel_rfl
theorem PictureGreys.laidOut : laidOutB Try.prog = true := by kernel_rfl
theorem PictureGreys.cellsW : Try.prog.cellsOf 43 = 3 := by kernel_rfl

set_option maxRecDepth 100000 in
set_option maxHeartbeats 800000 in
theorem PictureGreys.lifted (os : Os) (started : os.Started) (H : Type) (enc : TypeId × Value → H) :
    ReturnsInHanded {} Try.checked os 9 .any (Rows.pictureGreysSpec.pre6 enc Try.prog Try.f9 Rows.pictureGreysRow.domain false) (Rows.pictureGreysSpec.post enc Try.prog Try.f9 false true false false) := by
  refine returnsInHanded_of_change_sized (C := Try.checked) PictureGreys.own started (by kernel_rfl) Try.func9
    (ChangeSpec.witness6 (enc := enc) (C := Try.checked) false ⟨#[], #[.agg #[.int .u8 0, .int .i64 0, .int .i64 0], .int .u8 0, .agg #[.int .i64 0, .int .i64 0, .int .i64 0, .int .i64 0, .slice none 0 0]], []⟩ 8 (by kernel_rfl) (by kernel_rfl) (by kernel_rfl) (by kernel_rfl)) ?_
  intro W base args ds gs before hval0 hW hcnd hsz _
  have hval : ∀ (j : Nat) t v, Try.f9.params[j]? = some t → args[j]? = some v → Value.okWide Try.prog W .any base t v := hval0
  have hW' := hW
  obtain ⟨p, q, hA0, hV, rfl, hfz, hnd⟩ := hW
  have hA : DataW.TrodAll enc Try.prog W 0 (fun _ => true) true Try.f9.params.toList args.toList ds p := hA0
  rw [Try.params9] at hA hval
  obtain ⟨v0, vs0, d0, ds0, p0, q0, hargs, rfl, rfl, h0, r0⟩ := trodAll_cons hA
  obtain ⟨v1, vs1, d1, ds1, p1, q1, rfl, rfl, rfl, h1, r1⟩ := trodAll_cons r0
  obtain ⟨v2, vs2, d2, ds2, p2, q2, rfl, rfl, rfl, h2, r2⟩ := trodAll_cons r1
  obtain ⟨rfl, rfl, rfl⟩ := trodAll_nil r2
  obtain rfl : args = #[v0, v1, v2] := by cases args; simp_all
  obtain ⟨rfl, rfl⟩ := trodVars_none hV
  have k0 := h0
  have k1 := h1
  have k2 := h2
  have lt0 : ∀ x ∈ p0, x.block < W.heap.size := by obtain ⟨m, hm⟩ := k0; exact DataW.trod_lt m _ _ _ hm
  have lt1 : ∀ x ∈ p1, x.block < W.heap.size := by obtain ⟨m, hm⟩ := k1; exact DataW.trod_lt m _ _ _ hm
  have lt2 : ∀ x ∈ p2, x.block < W.heap.size := by obtain ⟨m, hm⟩ := k2; exact DataW.trod_lt m _ _ _ hm
  obtain ⟨u00, u01, u02, y00, y01, y02, f0, rfl, -, -, hy00, hy01, hy02⟩ := open_agg3 Try.underlying43 (by kernel_rfl) PictureGreys.cellsW (hval 0 43 _ rfl rfl) h0
  obtain ⟨x00, e00, -, wx00⟩ := DataW.trod_int Try.underlying41 hy00
  obtain ⟨x01, e01, -, wx01⟩ := DataW.trod_int Try.underlying3 hy01
  obtain ⟨x02, e02, -, wx02⟩ := DataW.trod_int Try.underlying3 hy02
  obtain ⟨x1, rfl, -, -, wx1⟩ := open_int Try.underlying5 (hval 1 5 _ rfl rfl) h1
  obtain ⟨T2, A2, n2, c2, rfl, HT2, hx2⟩ := open_tile (hval 2 69 _ rfl rfl) h2
  have RN2 := tile_reach hsz (j := 2) (by rw [Try.params9]; rfl) (by rfl) hx2
  simp at e00 e01 e02
  subst e00 e01 e02
  clear hA0 hval0
  have bx00 := bounds_u8 wx00
  have bx01 := bounds_i64 wx01
  have bx02 := bounds_i64 wx02
  have HW0 : Wit.ok ⟨x00, x01, x02⟩ := ⟨bx00.1, bx00.2, bx01.1, bx01.2, bx02.1, bx02.2⟩
  have bx1 := bounds_u8 wx1
  refine (greys_any ⟨x00, x01, x02⟩ x1 T2 A2 n2 c2 W HW0 bx1.1 bx1.2 HT2 RN2).mono fun e W' ⟨he, bel⟩ => ?_
  subst he
  exact ⟨_, rfl, _, _, _, [], _, [], hW', trodAll_mk1 (shut_bool Try.underlying4 _),
    (trodAll_cons_mk (Below.trod PictureGreys.laidOut (by kernel_rfl) (of_decide_eq_true (by kernel_rfl)) k0 bel lt0) (trodAll_cons_mk (Below.trod PictureGreys.laidOut (by kernel_rfl) (of_decide_eq_true (by kernel_rfl)) k1 bel lt1) (trodAll_cons_mk (Below.trod PictureGreys.laidOut (by kernel_rfl) (of_decide_eq_true (by kernel_rfl)) k2 bel lt2) trodAll_mk0))),
    rfl, bel.frame _, fun h => by cases h⟩

theorem PictureGreys.over : Rows.pictureGreysRow.holds Try.pinned (OpenSpec.ofChange Rows.pictureGreysSpec) :=
  OpenClaim.holds_of_wide 9 Try.f9 rfl rfl rfl rfl rfl rfl rfl ⟨rfl, rfl, rfl, rfl, rfl⟩ rfl rfl rfl rfl rfl (by kernel_rfl) Try.func9 (by kernel_rfl)
    (of_decide_eq_true (by kernel_rfl)) (by unfold Func.isWrapper; first | (rw [if_pos (by decide +kernel)]; kernel_rfl) | (rw [if_neg (by decide +kernel)]; exact ⟨rfl, rfl⟩))
    (fun os started H enc _ => PictureGreys.lifted os started H enc)

theorem pictureGreys_proved : Rows.PictureGreysSaid := PictureGreys.over
#print axioms pictureGreys_proved
end Go.Proofs.Ytbhgcbgaadnfpaa
