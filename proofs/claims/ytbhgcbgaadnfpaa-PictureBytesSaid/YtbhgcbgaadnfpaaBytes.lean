/- PictureBytes, of every picture and every bytes: what is written and what is read is what the document says, in new memory; what comes in reads as it did. No condition. -/
import Derived.Test.YtbhgcbgaadnfpaaBytesL
import Derived.Test.YtbhgcbgaadnfpaaOpenC
import Derived.ChangeMaps5
namespace Go.Proofs.Ytbhgcbgaadnfpaa
open Go.ChangeShapes Go.WideShapes Go.ChangeAt Go.RowKit Go.Joins

theorem PictureBytes.own : ownKnob Try.prog.godebug = none := by kernel_rfl
theorem PictureBytes.laidOut : laidOutB Try.prog = true := by kernel_rfl
theorem PictureBytes.cellsP : Try.prog.cellsOf 24 = 3 := by kernel_rfl

set_option maxRecDepth 100000 in
set_option maxHeartbeats 800000 in
theorem PictureBytes.lifted (os : Os) (started : os.Started) (H : Type) (enc : TypeId × Value → H) :
    ReturnsInHanded {} Try.checked os 3 .any (Rows.pictureBytesSpec.pre6 enc Try.prog Try.f3 Rows.pictureBytesRow.domain false) (Rows.pictureBytesSpec.post enc Try.prog Try.f3 false true false false) := by
  refine returnsInHanded_of_change_sized (C := Try.checked) PictureBytes.own started (by kernel_rfl) Try.func3
    (ChangeSpec.witness6 (enc := enc) (C := Try.checked) false ⟨#[], #[.agg #[.int .i64 0, .int .i64 0, .slice none 0 0], .string ⟨#[]⟩], []⟩ 8 (by kernel_rfl) (by kernel_rfl) (by kernel_rfl) (by kernel_rfl)) ?_
  intro W base args ds gs before hval0 hW hcnd hsz _
  have hval : ∀ (j : Nat) t v, Try.f3.params[j]? = some t → args[j]? = some v → Value.okWide Try.prog W .any base t v := hval0
  have hW' := hW
  obtain ⟨p, q, hA0, hV, rfl, hfz, hnd⟩ := hW
  have hA : DataW.TrodAll enc Try.prog W 0 (fun _ => true) true Try.f3.params.toList args.toList ds p := hA0
  rw [Try.params3] at hA hval
  obtain ⟨v0, vs0, d0, ds0, p0, q0, hargs, rfl, rfl, h0, r0⟩ := trodAll_cons hA
  obtain ⟨v1, vs1, d1, ds1, p1, q1, rfl, rfl, rfl, h1, r1⟩ := trodAll_cons r0
  obtain ⟨rfl, rfl, rfl⟩ := trodAll_nil r1
  obtain rfl : args = #[v0, v1] := by cases args; simp_all
  obtain ⟨rfl, rfl⟩ := trodVars_none hV
  have k0 := h0
  have k1 := h1
  have lt0 : ∀ x ∈ p0, x.block < W.heap.size := by obtain ⟨m, hm⟩ := k0; exact DataW.trod_lt m _ _ _ hm
  have lt1 : ∀ x ∈ p1, x.block < W.heap.size := by obtain ⟨m, hm⟩ := k1; exact DataW.trod_lt m _ _ _ hm
  obtain ⟨a0, a1, a2, y0, y1, y2, n, rfl, hd0, -, hy0, hy1, hy2⟩ := open_agg3 Try.underlying24 (by kernel_rfl) PictureBytes.cellsP (hval 0 24 _ rfl rfl) h0
  obtain ⟨x0, e0, -, wx0⟩ := DataW.trod_int Try.underlying3 hy0
  obtain ⟨x1, e1, -, wx1⟩ := DataW.trod_int Try.underlying3 hy1
  obtain ⟨A0, n0, c0, g0, rfl, hnc0, hcm0, hl0, hr0, hx2⟩ := open_bytes2 hy2
  have hn0 := pic_reach hsz (j := 0) (by rw [Try.params3]; rfl) (by rw [hd0]; rfl) hx2
  obtain ⟨s, rfl, -, -, hs⟩ := Go.ChangeMaps.open_string Try.underlying9 (hval 1 9 _ rfl rfl) h1
  simp at e0 e1
  subst e0 e1
  clear hA0 hval0
  have bx0 := bounds_i64 wx0
  have bx1 := bounds_i64 wx1
  refine (bytes_any x0 x1 A0 n0 c0 g0 s W bx0.1 bx0.2 bx1.1 bx1.2 hn0 hnc0 hl0 hr0 hs).mono fun e W' ⟨he, bel⟩ => ?_
  subst he
  exact ⟨_, rfl, _, _, _, [], _, [], hW', trodAll_mk1 (shut_bool Try.underlying4 _),
    (trodAll_cons_mk (Below.trod PictureBytes.laidOut (by kernel_rfl) (of_decide_eq_true (by kernel_rfl)) k0 bel lt0) (trodAll_cons_mk (Below.trod PictureBytes.laidOut (by kernel_rfl) (of_decide_eq_true (by kernel_rfl)) k1 bel lt1) trodAll_mk0)),
    rfl, bel.frame _, fun h => by cases h⟩

theorem PictureBytes.over : Rows.pictureBytesRow.holds Try.pinned (OpenSpec.ofChange Rows.pictureBytesSpec) :=
  OpenClaim.holds_of_wide 3 Try.f3 rfl rfl rfl rfl rfl rfl rfl ⟨rfl, rfl, rfl, rfl, rfl⟩ rfl rfl rfl rfl rfl (by kernel_rfl) Try.func3 (by kernel_rfl)
    (of_decide_eq_true (by kernel_rfl)) (by unfold Func.isWrapper; first | (rw [if_pos (by decide +kernel)]; kernel_rfl) | (rw [if_neg (by decide +kernel)]; exact ⟨rfl, rfl⟩))
    (fun os started H enc _ => PictureBytes.lifted os started H enc)

theorem pictureBytes_proved : Rows.PictureBytesSaid := PictureBytes.over
#print axioms pictureBytes_proved
end Go.Proofs.Ytbhgcbgaadnfpaa
