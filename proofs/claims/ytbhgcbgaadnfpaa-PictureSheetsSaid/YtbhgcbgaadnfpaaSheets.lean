/- PictureSheets, of every grid and pictures: a sheet is what the law's own words put together, in new memory, and the error is the same. No condition. -/
import Derived.Test.YtbhgcbgaadnfpaaSheetsL
import Derived.Test.YtbhgcbgaadnfpaaOpenP
import Derived.Test.YtbhgcbgaadnfpaaOpenG
import Derived.ChangeMaps5
namespace Go.Proofs.Ytbhgcbgaadnfpaa
open Go.ChangeShapes Go.WideShapes Go.ChangeAt Go.RowKit Go.Joins

theorem sheets_row (g : GrD) (A : Option Addr) (n c : Nat) (ps : List PicD) (w : World) (hg : g.ok) (hp : Pics w A ps) (hl : ps.length = n) (hnc : n ≤ c) :
    Calls Try.prog 10 #[.agg #[.bool g.re.neg, .string g.re.n, .int .i64 g.re.e, .bool g.im.neg, .string g.im.n, .int .i64 g.im.e, .int .i64 g.exp, .int .i64 g.across, .int .i64 g.down, .int .i64 g.wide, .int .i64 g.high], .slice A n c] w fun e w' => e = .returned (.bool true) ∧ Kept w w' := by
  by_cases h : n ≤ 400
  · exact sheets_any g A c n ps w hg hp hl.symm h hnc
  · exact sheets_long g A n c w (by omega)
theorem PictureSheets.own : ownKnob Try.prog.godebug = none := by kernel_rfl
theorem PictureSheets.laidOut : laidOutB Try.prog = true := by kernel_rfl

set_option maxRecDepth 100000 in
set_option maxHeartbeats 800000 in
theorem PictureSheets.lifted (os : Os) (started : os.Started) (H : Type) (enc : TypeId × Value → H) :
    ReturnsInHanded {} Try.checked os 10 .any (Rows.pictureSheetsSpec.pre6 enc Try.prog Try.f10 Rows.pictureSheetsRow.domain false) (Rows.pictureSheetsSpec.post enc Try.prog Try.f10 false true false false) := by
  refine returnsInHanded_of_change_sized (C := Try.checked) PictureSheets.own started (by kernel_rfl) Try.func10
    (ChangeSpec.witness6 (enc := enc) (C := Try.checked) false ⟨#[], #[.agg #[.bool false, .string ⟨#[]⟩, .int .i64 0, .bool false, .string ⟨#[]⟩, .int .i64 0, .int .i64 0, .int .i64 0, .int .i64 0, .int .i64 0, .int .i64 0], .slice none 0 0], []⟩ 8 (by kernel_rfl) (by kernel_rfl) (by kernel_rfl) (by kernel_rfl)) ?_
  intro W base args ds gs before hval0 hW hcnd hsz _
  have hval : ∀ (j : Nat) t v, Try.f10.params[j]? = some t → args[j]? = some v → Value.okWide Try.prog W .any base t v := hval0
  have hW' := hW
  obtain ⟨p, q, hA0, hV, rfl, hfz, hnd⟩ := hW
  have hA : DataW.TrodAll enc Try.prog W 0 (fun _ => true) true Try.f10.params.toList args.toList ds p := hA0
  rw [Try.params10] at hA hval
  obtain ⟨v0, vs0, d0, ds0, p0, q0, hargs, rfl, rfl, h0, r0⟩ := trodAll_cons hA
  obtain ⟨v1, vs1, d1, ds1, p1, q1, rfl, rfl, rfl, h1, r1⟩ := trodAll_cons r0
  obtain ⟨rfl, rfl, rfl⟩ := trodAll_nil r1
  obtain rfl : args = #[v0, v1] := by cases args; simp_all
  obtain ⟨rfl, rfl⟩ := trodVars_none hV
  have k0 := h0
  have k1 := h1
  have lt0 : ∀ x ∈ p0, x.block < W.heap.size := by obtain ⟨m, hm⟩ := k0; exact DataW.trod_lt m _ _ _ hm
  have lt1 : ∀ x ∈ p1, x.block < W.heap.size := by obtain ⟨m, hm⟩ := k1; exact DataW.trod_lt m _ _ _ hm
  obtain ⟨g0, HG0, rfl⟩ := open_grid (hval 0 82 _ rfl rfl) h0
  obtain ⟨Aq1, nq1, cq1, rfl⟩ := okWide_slice Try.underlying58 (hval 1 58 _ rfl rfl)
  obtain ⟨fu1, hf1⟩ := h1
  obtain ⟨A1, n1, c1, ps1, hv1, hnc1, hcm1, hl1, HP1, HB1⟩ := open_pics (v := .slice Aq1 nq1 cq1) (x := (d1, p1)) hf1 (pics_reach hsz (j := 1) (by rw [Try.params10]; rfl) (by rfl))
  injection hv1 with hv1a hv1b hv1c
  subst hv1a hv1b hv1c
  clear hA0 hval0
  refine (sheets_row g0 Aq1 nq1 cq1 ps1 W HG0 HP1 hl1 hnc1).mono fun e W' ⟨he, bel⟩ => ?_
  subst he
  exact ⟨_, rfl, _, _, _, [], _, [], hW', trodAll_mk1 (shut_bool Try.underlying4 _),
    (trodAll_cons_mk (Below.trod PictureSheets.laidOut (by kernel_rfl) (of_decide_eq_true (by kernel_rfl)) k0 bel lt0) (trodAll_cons_mk (Below.trod PictureSheets.laidOut (by kernel_rfl) (of_decide_eq_true (by kernel_rfl)) k1 bel lt1) trodAll_mk0)),
    rfl, bel.frame _, fun h => by cases h⟩

theorem PictureSheets.over : Rows.pictureSheetsRow.holds Try.pinned (OpenSpec.ofChange Rows.pictureSheetsSpec) :=
  OpenClaim.holds_of_wide 10 Try.f10 rfl rfl rfl rfl rfl rfl rfl ⟨rfl, rfl, rfl, rfl, rfl⟩ rfl rfl rfl rfl rfl (by kernel_rfl) Try.func10 (by kernel_rfl)
    (of_decide_eq_true (by kernel_rfl)) (by unfold Func.isWrapper; first | (rw [if_pos (by decide +kernel)]; kernel_rfl) | (rw [if_neg (by decide +kernel)]; exact ⟨rfl, rfl⟩))
    (fun os started H enc _ => PictureSheets.lifted os started H enc)

theorem pictureSheets_proved : Rows.PictureSheetsSaid := PictureSheets.over
#print axioms pictureSheets_proved
end Go.Proofs.Ytbhgcbgaadnfpaa
