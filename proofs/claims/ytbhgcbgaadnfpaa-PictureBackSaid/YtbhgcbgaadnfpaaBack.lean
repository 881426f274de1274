/- PictureBack, of every two pictures and every bytes: there and back, how long at most, and nothing else is read; what comes in reads as it did. No condition. -/
import Derived.Test.YtbhgcbgaadnfpaaBackL
import Derived.Test.YtbhgcbgaadnfpaaOpenB
import Derived.ChangeMaps5
namespace Go.Proofs.Ytbhgcbgaadnfpaa
open Go.ChangeShapes Go.WideShapes Go.ChangeAt Go.RowKit Go.Joins

theorem PictureBack.own : ownKnob Try.prog.godebug = none := by kernel_rfl
theorem PictureBack.laidOut : laidOutB Try.prog = true := by kernel_rfl
theorem PictureBack.cellsP : Try.prog.cellsOf 24 = 3 := by kernel_rfl

set_option maxRecDepth 100000 in
set_option maxHeartbeats 800000 in
theorem PictureBack.lifted (os : Os) (started : os.Started) (H : Type) (enc : TypeId × Value → H) :
    ReturnsInHanded {} Try.checked os 4 .any (Rows.pictureBackSpec.pre6 enc Try.prog Try.f4 Rows.pictureBackRow.domain false) (Rows.pictureBackSpec.post enc Try.prog Try.f4 false true false false) := by
  refine returnsInHanded_of_change (C := Try.checked) PictureBack.own started (by kernel_rfl) Try.func4
    (ChangeSpec.witness6 (enc := enc) (C := Try.checked) false ⟨#[], #[.agg #[.int .i64 0, .int .i64 0, .slice none 0 0], .agg #[.int .i64 0, .int .i64 0, .slice none 0 0], .string ⟨#[]⟩], []⟩ 8 (by kernel_rfl) (by kernel_rfl) (by kernel_rfl) (by kernel_rfl)) ?_
  intro W base args ds gs before hval0 hW hcnd _
  have hval : ∀ (j : Nat) t v, Try.f4.params[j]? = some t → args[j]? = some v → Value.okWide Try.prog W .any base t v := hval0
  have hW' := hW
  obtain ⟨p, q, hA0, hV, rfl, hfz, hnd⟩ := hW
  have hA : DataW.TrodAll enc Try.prog W 0 (fun _ => true) true Try.f4.params.toList args.toList ds p := hA0
  rw [Try.params4] at hA hval
  obtain ⟨v0, vs0, d0, ds0, p0, q0, hargs, rfl, rfl, h0, r0⟩ := trodAll_cons hA
  obtain ⟨v1, vs1, d1, ds1, p1, q1, rfl, rfl, rfl, h1, r1⟩ := trodAll_cons r0
  obtain ⟨v2, vs2, d2, ds2, p2, q2, rfl, rfl, rfl, h2, r2⟩ := trodAll_cons r1
  obtain ⟨rfl, rfl, rfl⟩ := trodAll_nil r2
  obtain rfl : args = #[v0, v1, v2] := by cases args; simp_all
  obtain ⟨rfl, rfl⟩ := trodVars_none hV
  have k0 := h0
  have k1 := h1
  have k2 := h2
  have lt0 : ∀ x ∈ p0, x.block < W.heap.size := by obtain ⟨m, hm⟩ := k0; exact DataW.trod_lt m _ _ _ hm
  have lt1 : ∀ x ∈ p1, x.block < W.heap.size := by obtain ⟨m, hm⟩ := k1; exact DataW.trod_lt m _ _ _ hm
  have lt2 : ∀ x ∈ p2, x.block < W.heap.size := by obtain ⟨m, hm⟩ := k2; exact DataW.trod_lt m _ _ _ hm
  obtain ⟨a0, a1, a2, y0, y1, y2, n, rfl, hd0, -, hy0, hy1, hy2⟩ := open_agg3 Try.underlying24 (by kernel_rfl) PictureBack.cellsP (hval 0 24 _ rfl rfl) h0
  obtain ⟨x0, e0, -, wx0⟩ := DataW.trod_int Try.underlying3 hy0
  obtain ⟨x1, e1, -, wx1⟩ := DataW.trod_int Try.underlying3 hy1
  obtain ⟨A0, n0, c0, g0, rfl, hnc0, hcm0, hl0, hr0⟩ := open_bytes hy2
  obtain ⟨b0, b1, b2, z0, z1, z2, n', rfl, hd1, -, hz0, hz1, hz2⟩ := open_agg3 Try.underlying24 (by kernel_rfl) PictureBack.cellsP (hval 1 24 _ rfl rfl) h1
  obtain ⟨u0, f0, -, wu0⟩ := DataW.trod_int Try.underlying3 hz0
  obtain ⟨u1, f1, -, wu1⟩ := DataW.trod_int Try.underlying3 hz1
  obtain ⟨A1, n1, c1, g1, rfl, hnc1, hcm1, hl1, hr1⟩ := open_bytes hz2
  obtain ⟨s, rfl, -, -, hs⟩ := Go.ChangeMaps.open_string Try.underlying9 (hval 2 9 _ rfl rfl) h2
  simp at e0 e1 f0 f1
  subst e0 e1 f0 f1
  clear hA0 hval0
  have bx0 := bounds_i64 wx0
  have bx1 := bounds_i64 wx1
  have bu0 := bounds_i64 wu0
  have bu1 := bounds_i64 wu1
  have hm : maxLen ≤ 9223372036854775807 := by simp [maxLen]
  refine (back_any x0 x1 u0 u1 A0 A1 n0 c0 n1 c1 g0 g1 s W bx0.1 bx0.2 bx1.1 bx1.2 bu0.1 bu0.2 bu1.1 bu1.2 (by omega) (by omega) hnc0 hnc1 hl0 hl1 hr0 hr1 hs).mono fun e W' ⟨he, bel⟩ => ?_
  subst he
  exact ⟨_, rfl, _, _, _, [], _, [], hW', trodAll_mk1 (shut_bool Try.underlying4 _),
    (trodAll_cons_mk (Below.trod PictureBack.laidOut (by kernel_rfl) (of_decide_eq_true (by kernel_rfl)) k0 bel lt0) (trodAll_cons_mk (Below.trod PictureBack.laidOut (by kernel_rfl) (of_decide_eq_true (by kernel_rfl)) k1 bel lt1) (trodAll_cons_mk (Below.trod PictureBack.laidOut (by kernel_rfl) (of_decide_eq_true (by kernel_rfl)) k2 bel lt2) trodAll_mk0))),
    rfl, bel.frame _, fun h => by cases h⟩

theorem PictureBack.over : Rows.pictureBackRow.holds Try.pinned (OpenSpec.ofChange Rows.pictureBackSpec) :=
  OpenClaim.holds_of_wide 4 Try.f4 rfl rfl rfl rfl rfl rfl rfl ⟨rfl, rfl, rfl, rfl, rfl⟩ rfl rfl rfl rfl rfl (by kernel_rfl) Try.func4 (by kernel_rfl)
    (of_decide_eq_true (by kernel_rfl)) (by unfold Func.isWrapper; first | (rw [if_pos (by decide +kernel)]; kernel_rfl) | (rw [if_neg (by decide +kernel)]; exact ⟨rfl, rfl⟩))
    (fun os started H enc _ => PictureBack.lifted os started H enc)

theorem pictureBack_proved : Rows.PictureBackSaid := PictureBack.over
#print axioms pictureBack_proved
end Go.Proofs.Ytbhgcbgaadnfpaa
