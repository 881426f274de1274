/- PicturePuts, of every pictures and numbers: beside, below and cropped they are what the document says, in new memory; what comes in stays, and reads as it did. No condition. -/
import Derived.Test.YtbhgcbgaadnfpaaPutsL
import Derived.Test.YtbhgcbgaadnfpaaOpenP
import Derived.ChangeMaps5
namespace Go.Proofs.Ytbhgcbgaadnfpaa
open Go.ChangeShapes Go.WideShapes Go.ChangeAt Go.RowKit Go.Joins

theorem puts_row (A : Option Addr) (n cl : Nat) (ps : List PicD) (c f s t : Int) (w : World) (hp : Pics w A ps) (hl : ps.length = n) (hlc : n ≤ cl) (hbnd : ∀ p ∈ ps, p.g.length + 1 ≤ 140737488355328)
    (h0 : -9223372036854775808 ≤ s) (h0' : s ≤ 9223372036854775807) (h1 : -9223372036854775808 ≤ t) (h1' : t ≤ 9223372036854775807) :
    Calls Try.prog 7 #[.slice A n cl, .int .i64 c, .int .i64 f, .int .i64 s, .int .i64 t] w fun e w' => e = .returned (.bool true) ∧ Kept w w' := by
  by_cases h : n ≤ 300
  · subst hl
    exact puts_any A cl ps c f s t w hp h hlc hbnd h0 h0' h1 h1'
  · exact puts_long A n cl c f s t w (by omega)
theorem PicturePuts.own : ownKnob Try.prog.godebug = none := by kernel_rfl
theorem PicturePuts.laidOut : laidOutB Try.prog = true := by kernel_rfl

set_option maxRecDepth 100000 in
set_option maxHeartbeats 800000 in
theorem PicturePuts.lifted (os : Os) (started : os.Started) (H : Type) (enc : TypeId × Value → H) :
    ReturnsInHanded {} Try.checked os 7 .any (Rows.picturePutsSpec.pre6 enc Try.prog Try.f7 Rows.picturePutsRow.domain false) (Rows.picturePutsSpec.post enc Try.prog Try.f7 false true false false) := by
  refine returnsInHanded_of_change_sized (C := Try.checked) PicturePuts.own started (by kernel_rfl) Try.func7
    (ChangeSpec.witness6 (enc := enc) (C := Try.checked) false ⟨#[], #[.slice none 0 0, .int .i64 0, .int .i64 0, .int .i64 0, .int .i64 0], []⟩ 8 (by kernel_rfl) (by kernel_rfl) (by kernel_rfl) (by kernel_rfl)) ?_
  intro W base args ds gs before hval0 hW hcnd hsz _
  have hval : ∀ (j : Nat) t v, Try.f7.params[j]? = some t → args[j]? = some v → Value.okWide Try.prog W .any base t v := hval0
  have hW' := hW
  obtain ⟨p, q, hA0, hV, rfl, hfz, hnd⟩ := hW
  have hA : DataW.TrodAll enc Try.prog W 0 (fun _ => true) true Try.f7.params.toList args.toList ds p := hA0
  rw [Try.params7] at hA hval
  obtain ⟨v0, vs0, d0, ds0, p0, q0, hargs, rfl, rfl, h0, r0⟩ := trodAll_cons hA
  obtain ⟨v1, vs1, d1, ds1, p1, q1, rfl, rfl, rfl, h1, r1⟩ := trodAll_cons r0
  obtain ⟨v2, vs2, d2, ds2, p2, q2, rfl, rfl, rfl, h2, r2⟩ := trodAll_cons r1
  obtain ⟨v3, vs3, d3, ds3, p3, q3, rfl, rfl, rfl, h3, r3⟩ := trodAll_cons r2
  obtain ⟨v4, vs4, d4, ds4, p4, q4, rfl, rfl, rfl, h4, r4⟩ := trodAll_cons r3
  obtain ⟨rfl, rfl, rfl⟩ := trodAll_nil r4
  obtain rfl : args = #[v0, v1, v2, v3, v4] := by cases args; simp_all
  obtain ⟨rfl, rfl⟩ := trodVars_none hV
  have k0 := h0
  have k1 := h1
  have k2 := h2
  have k3 := h3
  have k4 := h4
  have lt0 : ∀ x ∈ p0, x.block < W.heap.size := by obtain ⟨m, hm⟩ := k0; exact DataW.trod_lt m _ _ _ hm
  have lt1 : ∀ x ∈ p1, x.block < W.heap.size := by obtain ⟨m, hm⟩ := k1; exact DataW.trod_lt m _ _ _ hm
  have lt2 : ∀ x ∈ p2, x.block < W.heap.size := by obtain ⟨m, hm⟩ := k2; exact DataW.trod_lt m _ _ _ hm
  have lt3 : ∀ x ∈ p3, x.block < W.heap.size := by obtain ⟨m, hm⟩ := k3; exact DataW.trod_lt m _ _ _ hm
  have lt4 : ∀ x ∈ p4, x.block < W.heap.size := by obtain ⟨m, hm⟩ := k4; exact DataW.trod_lt m _ _ _ hm
  obtain ⟨Aq0, nq0, cq0, rfl⟩ := okWide_slice Try.underlying58 (hval 0 58 _ rfl rfl)
  obtain ⟨fu0, hf0⟩ := h0
  obtain ⟨A0, n0, c0, ps0, hv0, hnc0, hcm0, hl0, HP0, HB0⟩ := open_pics (v := .slice Aq0 nq0 cq0) (x := (d0, p0)) hf0 (pics_reach hsz (j := 0) (by rw [Try.params7]; rfl) (by rfl))
  injection hv0 with hv0a hv0b hv0c
  subst hv0a hv0b hv0c
  obtain ⟨x1, rfl, -, -, wx1⟩ := open_int Try.underlying3 (hval 1 3 _ rfl rfl) h1
  obtain ⟨x2, rfl, -, -, wx2⟩ := open_int Try.underlying3 (hval 2 3 _ rfl rfl) h2
  obtain ⟨x3, rfl, -, -, wx3⟩ := open_int Try.underlying3 (hval 3 3 _ rfl rfl) h3
  obtain ⟨x4, rfl, -, -, wx4⟩ := open_int Try.underlying3 (hval 4 3 _ rfl rfl) h4
  clear hA0 hval0
  have bx1 := bounds_i64 wx1
  have bx2 := bounds_i64 wx2
  have bx3 := bounds_i64 wx3
  have bx4 := bounds_i64 wx4
  refine (puts_row Aq0 nq0 cq0 ps0 x1 x2 x3 x4 W HP0 hl0 hnc0 HB0 bx3.1 bx3.2 bx4.1 bx4.2).mono fun e W' ⟨he, bel⟩ => ?_
  subst he
  exact ⟨_, rfl, _, _, _, [], _, [], hW', trodAll_mk1 (shut_bool Try.underlying4 _),
    (trodAll_cons_mk (Below.trod PicturePuts.laidOut (by kernel_rfl) (of_decide_eq_true (by kernel_rfl)) k0 bel lt0) (trodAll_cons_mk (Below.trod PicturePuts.laidOut (by kernel_rfl) (of_decide_eq_true (by kernel_rfl)) k1 bel lt1) (trodAll_cons_mk (Below.trod PicturePuts.laidOut (by kernel_rfl) (of_decide_eq_true (by kernel_rfl)) k2 bel lt2) (trodAll_cons_mk (Below.trod PicturePuts.laidOut (by kernel_rfl) (of_decide_eq_true (by kernel_rfl)) k3 bel lt3) (trodAll_cons_mk (Below.trod PicturePuts.laidOut (by kernel_rfl) (of_decide_eq_true (by kernel_rfl)) k4 bel lt4) trodAll_mk0))))),
    rfl, bel.frame _, fun h => by cases h⟩

theorem PicturePuts.over : Rows.picturePutsRow.holds Try.pinned (OpenSpec.ofChange Rows.picturePutsSpec) :=
  OpenClaim.holds_of_wide 7 Try.f7 rfl rfl rfl rfl rfl rfl rfl ⟨rfl, rfl, rfl, rfl, rfl⟩ rfl rfl rfl rfl rfl (by kernel_rfl) Try.func7 (by kernel_rfl)
    (of_decide_eq_true (by kernel_rfl)) (by unfold Func.isWrapper; first | (rw [if_pos (by decide +kernel)]; kernel_rfl) | (rw [if_neg (by decide +kernel)]; exact ⟨rfl, rfl⟩))
    (fun os started H enc _ => PicturePuts.lifted os started H enc)

theorem picturePuts_proved : Rows.PicturePutsSaid := PicturePuts.over
#print axioms picturePuts_proved
end Go.Proofs.Ytbhgcbgaadnfpaa
