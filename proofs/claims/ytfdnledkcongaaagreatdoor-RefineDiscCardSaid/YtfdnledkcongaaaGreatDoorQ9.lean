/- Texts of one claim laid together: VrB, VrC, VrD, TelA. -/
import Derived.Test.YtfdnledkcongaaaGreatDoorQ8
set_option linter.all false
namespace Go.Proofs.YtfdnledkcongaaaGreatDoor
open Go.RowKit Go.Proofs.Tryz
section
set_option maxHeartbeats 3200000
set_option maxRecDepth 100000
attribute [local go_sem] run_float_arith qaI qaJ qau qah qae
theorem qg2 (s : SqD) (w : World) (hs : sqB s = true) :
  Calls prog 116 #[.agg #[.bool s.left.neg, .string s.left.n, .int .i64 s.left.e, .bool s.low.neg, .string s.low.n, .int .i64 s.low.e, .int .i64 s.e]] w fun en w' => en = .returned (.tuple #[.agg #[.bool (qaN s).1.neg, .string (qaN s).1.n, .int .i64 (qaN s).1.e], .agg #[.bool (qaZ s).1.neg, .string (qaZ s).1.n, .int .i64 (qaZ s).1.e], .int .i64 (if (qaN s).2 = 0 ∧ (qaZ s).2 = 0 then 0 else 4)]) ∧ Kept w w' := by
 obtain ⟨h1, h2, h3, h4⟩ := qas.1 hs
 have M1 := qh (fun W => qgq s.left 1 s.e W h1 (by omega) (by omega))
 have M2 := qh (fun W => qgq s.low 1 s.e W h2 (by omega) (by omega))
 unfold qaN qaZ
 generalize qaM s.left 1 s.e = R at *
 generalize qaM s.low 1 s.e = Q at *
 obtain ⟨⟨a0, a1, a2⟩, ⟨a3, a4, a5⟩, a6⟩ := s
 obtain ⟨⟨r0, r1, r2⟩, r3⟩ := R
 obtain ⟨⟨q0, q1, q2⟩, q3⟩ := Q
 simp only at M1 M2 h3 h4 ⊢
 obtain ⟨E, hE⟩ : ∃ E : Int, E = if r3 = 0 ∧ q3 = 0 then 0 else 4 := ⟨_, rfl⟩
 rw [← hE]
 have HE := qh hE
 clear hs h1 h2 hE
 go_enter func116, ntmps116
 go_upto_region 1 with fail
 obtain ⟨b, w1, hw, hb, B0, B1, B2, K1, HB⟩ := qct w (LC3 a0 a1 a2 a3 a4 a5 a6) 26 (LC0 false ⟨#[]⟩ 0) 24 (LC0 false ⟨#[]⟩ 0) 24
 rw [← hw, ← hb]; clear hw hb
 obtain ⟨c0, c1, c2, c3, c4, c5, c6⟩ := B0.out.c7
 go_upto_region 2 with (go_at_call 117; (with_reducible refine (M1.out _).mono ?_); rintro e w3 ⟨rfl, hk3⟩)
 have HG0 := qh (show w3.heap.size ≠ b + 1 by have := B1.out.lt; have := hk3.size; omega)
 have K4 := qh (Kept.new hk3 (.cells (LC0 r0 r1 r2).toArray 24))
 have B3 := qh (Bx.new w3 (LC0 r0 r1 r2) 24 w3.heap.size rfl)
 obtain ⟨g, hg⟩ : ∃ g, g = w3.heap.size := ⟨_, rfl⟩
 rw [← hg] at B3 HG0 ⊢
 clear hg hk3
 generalize (w3.alloc (.cells (LC0 r0 r1 r2).toArray 24)) = w4 at *
 clear c0 c1 c2 c3 c4 c5 c6
 obtain ⟨c0, c1, c2, c3, c4, c5, c6⟩ := (B0.out.kept K4.out).c7
 go_upto_region 3 with (go_at_call 117; (with_reducible refine (M2.out _).mono ?_); rintro e w5 ⟨rfl, hk5⟩)
 have HG2 := qh (show w5.heap.size ≠ b + 1 by have := B1.out.lt; have := K4.out.size; have := hk5.size; omega)
 have K6 := qh (Kept.new (K4.out.trans' hk5) (.cells (LC0 q0 q1 q2).toArray 24))
 have B4 := qh (Bx.new w5 (LC0 q0 q1 q2) 24 w5.heap.size rfl)
 replace B3 := qh ((B3.out.kept hk5).kept (Kept.new (Below.refl _ _) (.cells (LC0 q0 q1 q2).toArray 24)))
 obtain ⟨g2, hg⟩ : ∃ g, g = w5.heap.size := ⟨_, rfl⟩
 rw [← hg] at B4 HG2 ⊢
 clear hg hk5
 generalize (w5.alloc (.cells (LC0 q0 q1 q2).toArray 24)) = w6 at *
 clear c0 c1 c2 c3 c4 c5 c6 M1 M2
 obtain ⟨c0, c1, c2⟩ := B3.out.c3
 obtain ⟨d0, d1, d2⟩ := B4.out.c3
 obtain ⟨e0, e1, e2⟩ := (B1.out.kept K6.out).c3
 obtain ⟨e3, e4, e5⟩ := (B2.out.kept K6.out).c3
 obtain ⟨f0, f1, f2⟩ := (B1.out.kept K6.out).f3
 obtain ⟨f3, f4, f5⟩ := (B2.out.kept K6.out).f3
 have KS : Hid (∀ v0 v1 v2 : Value, ((((w6.setCell ⟨b + 1, 0, none⟩ v0).setCell ⟨b + 1, 1, none⟩ v1).setCell ⟨b + 1, 2, none⟩ v2).drew.cell? ⟨g, 0, none⟩ = some (.bool r0) ∧ (((w6.setCell ⟨b + 1, 0, none⟩ v0).setCell ⟨b + 1, 1, none⟩ v1).setCell ⟨b + 1, 2, none⟩ v2).drew.cell? ⟨g, 1, none⟩ = some (.string r1) ∧ (((w6.setCell ⟨b + 1, 0, none⟩ v0).setCell ⟨b + 1, 1, none⟩ v1).setCell ⟨b + 1, 2, none⟩ v2).drew.cell? ⟨g, 2, none⟩ = some (.int .i64 r2)) ∧ (((w6.setCell ⟨b + 1, 0, none⟩ v0).setCell ⟨b + 1, 1, none⟩ v1).setCell ⟨b + 1, 2, none⟩ v2).drew.cell? ⟨g2, 0, none⟩ = some (.bool q0) ∧ (((w6.setCell ⟨b + 1, 0, none⟩ v0).setCell ⟨b + 1, 1, none⟩ v1).setCell ⟨b + 1, 2, none⟩ v2).drew.cell? ⟨g2, 1, none⟩ = some (.string q1) ∧ (((w6.setCell ⟨b + 1, 0, none⟩ v0).setCell ⟨b + 1, 1, none⟩ v1).setCell ⟨b + 1, 2, none⟩ v2).drew.cell? ⟨g2, 2, none⟩ = some (.int .i64 q2)) := fun v0 v1 v2 => ⟨(Bx.drew (((B3.out.far ⟨b + 1, 0, none⟩ HG0.out v0).far ⟨b + 1, 1, none⟩ HG0.out v1).far ⟨b + 1, 2, none⟩ HG0.out v2)).c3, (Bx.drew (((B4.out.far ⟨b + 1, 0, none⟩ HG2.out v0).far ⟨b + 1, 1, none⟩ HG2.out v1).far ⟨b + 1, 2, none⟩ HG2.out v2)).c3⟩
 have hS0 : (w6.drew.cell? ⟨g, 0, none⟩ = some (.bool r0) ∧ w6.drew.cell? ⟨g, 1, none⟩ = some (.string r1) ∧ w6.drew.cell? ⟨g, 2, none⟩ = some (.int .i64 r2)) ∧ w6.drew.cell? ⟨g2, 0, none⟩ = some (.bool q0) ∧ w6.drew.cell? ⟨g2, 1, none⟩ = some (.string q1) ∧ w6.drew.cell? ⟨g2, 2, none⟩ = some (.int .i64 q2) := ⟨⟨c0, c1, c2⟩, d0, d1, d2⟩
 by_cases h1 : r3 = 0
 ·by_cases h2 : q3 = 0
  ·have hE0 := qh (show E = 0 by rw [HE.out, if_pos ⟨h1, h2⟩])
   subst h1 h2
   go_wp2_with fail
   refine qab (fun W => (W.cell? ⟨g, 0, none⟩ = some (.bool r0) ∧ W.cell? ⟨g, 1, none⟩ = some (.string r1) ∧ W.cell? ⟨g, 2, none⟩ = some (.int .i64 r2)) ∧ W.cell? ⟨g2, 0, none⟩ = some (.bool q0) ∧ W.cell? ⟨g2, 1, none⟩ = some (.string q1) ∧ W.cell? ⟨g2, 2, none⟩ = some (.int .i64 q2)) [3,4] (by kernel_rfl) ?_ (fun hHeld => ?_)
   ·first | with_reducible assumption | with_reducible exact KS.out _ _ _
   refine wS 0 33 ?_
   refine wS 1 34 ?_
   refine oS 2 fun K hK => ?_
   go_simp
   refine hK.out _ _ ?_ (fun hHeld => ?_)
   ·first | with_reducible assumption | with_reducible exact KS.out _ _ _
   clear hK K
   try simp only [Act.put, tdy]
   refine eS 3 fun K hK => ?_
   go_simp
   refine hK.out _ _ ?_
   clear hK K
   try simp only [Act.put, tdy]
   refine eS 4 fun K hK => ?_
   go_simp
   refine hK.out _ _ ?_
   clear hK K
   try simp only [Act.put, tdy]
   refine dS ?_ _
   go_wp2_with fail
   exact bodyPost_ret (v := .tuple #[.agg #[.bool r0, .string r1, .int .i64 r2], .agg #[.bool q0, .string q1, .int .i64 q2], .int .i64 0]) (by simp [results, results116, go_sem, e0, e1, e2, e3, e4, e5]) rfl ⟨by rw [hE0.out], (((K1.out.trans' K6.out).qaL (b := b + 1) (by have := HB.out; omega) _ _ _).qaL (b := b + 1 + 1) (by have := HB.out; omega) _ _ _).drew'⟩
  ·have hE0 := qh (show E = 4 by rw [HE.out, if_neg (fun h => h2 h.2)])
   subst h1
   go_wp2_with fail
   refine qab (fun W => (W.cell? ⟨g, 0, none⟩ = some (.bool r0) ∧ W.cell? ⟨g, 1, none⟩ = some (.string r1) ∧ W.cell? ⟨g, 2, none⟩ = some (.int .i64 r2)) ∧ W.cell? ⟨g2, 0, none⟩ = some (.bool q0) ∧ W.cell? ⟨g2, 1, none⟩ = some (.string q1) ∧ W.cell? ⟨g2, 2, none⟩ = some (.int .i64 q2)) [3,4] (by kernel_rfl) ?_ (fun hHeld => ?_)
   ·first | with_reducible assumption | with_reducible exact KS.out _ _ _
   refine wS 0 31 ?_
   refine wS 1 32 ?_
   refine oS 2 fun K hK => ?_
   go_simp
   refine hK.out _ _ ?_ (fun hHeld => ?_)
   ·first | with_reducible assumption | with_reducible exact KS.out _ _ _
   clear hK K
   try simp only [Act.put, tdy]
   refine eS 3 fun K hK => ?_
   go_simp
   refine hK.out _ _ ?_
   clear hK K
   try simp only [Act.put, tdy]
   refine eS 4 fun K hK => ?_
   go_simp
   refine hK.out _ _ ?_
   clear hK K
   try simp only [Act.put, tdy]
   refine dS ?_ _
   go_wp2_with fail
   exact bodyPost_ret (v := .tuple #[.agg #[.bool r0, .string r1, .int .i64 r2], .agg #[.bool q0, .string q1, .int .i64 q2], .int .i64 4]) (by simp [results, results116, go_sem, e0, e1, e2, e3, e4, e5]) rfl ⟨by rw [hE0.out], (((K1.out.trans' K6.out).qaL (b := b + 1) (by have := HB.out; omega) _ _ _).qaL (b := b + 1 + 1) (by have := HB.out; omega) _ _ _).drew'⟩
 ·have hE0 := qh (show E = 4 by rw [HE.out, if_neg (fun h => h1 h.1)])
  go_wp2_with fail
  refine qab (fun W => (W.cell? ⟨g, 0, none⟩ = some (.bool r0) ∧ W.cell? ⟨g, 1, none⟩ = some (.string r1) ∧ W.cell? ⟨g, 2, none⟩ = some (.int .i64 r2)) ∧ W.cell? ⟨g2, 0, none⟩ = some (.bool q0) ∧ W.cell? ⟨g2, 1, none⟩ = some (.string q1) ∧ W.cell? ⟨g2, 2, none⟩ = some (.int .i64 q2)) [3,4] (by kernel_rfl) ?_ (fun hHeld => ?_)
  ·first | with_reducible assumption | with_reducible exact KS.out _ _ _
  refine wS 0 31 ?_
  refine wS 1 32 ?_
  refine oS 2 fun K hK => ?_
  go_simp
  refine hK.out _ _ ?_ (fun hHeld => ?_)
  ·first | with_reducible assumption | with_reducible exact KS.out _ _ _
  clear hK K
  try simp only [Act.put, tdy]
  refine eS 3 fun K hK => ?_
  go_simp
  refine hK.out _ _ ?_
  clear hK K
  try simp only [Act.put, tdy]
  refine eS 4 fun K hK => ?_
  go_simp
  refine hK.out _ _ ?_
  clear hK K
  try simp only [Act.put, tdy]
  refine dS ?_ _
  go_wp2_with fail
  exact bodyPost_ret (v := .tuple #[.agg #[.bool r0, .string r1, .int .i64 r2], .agg #[.bool q0, .string q1, .int .i64 q2], .int .i64 4]) (by simp [results, results116, go_sem, e0, e1, e2, e3, e4, e5]) rfl ⟨by rw [hE0.out], (((K1.out.trans' K6.out).qaL (b := b + 1) (by have := HB.out; omega) _ _ _).qaL (b := b + 1 + 1) (by have := HB.out; omega) _ _ _).drew'⟩
theorem qfF (s : SqD) (w : World) (hs : sqB s = true) :
  Calls prog 75 #[.agg #[.bool s.left.neg, .string s.left.n, .int .i64 s.left.e, .bool s.low.neg, .string s.low.n, .int .i64 s.low.e, .int .i64 s.e]] w fun en w' => en = .returned (qmG (qaA s)) ∧ Kept w w' := by
 have ED := qh (fun W => qg2 s W hs)
 unfold qaA
 generalize qaN s = R at *
 generalize qaZ s = Q at *
 obtain ⟨⟨a0, a1, a2⟩, ⟨a3, a4, a5⟩, a6⟩ := s
 obtain ⟨⟨r0, r1, r2⟩, r3⟩ := R
 obtain ⟨⟨q0, q1, q2⟩, q3⟩ := Q
 simp only at ED ⊢
 clear hs
 obtain ⟨E, hE⟩ : ∃ E : Int, E = if r3 = 0 ∧ q3 = 0 then 0 else 4 := ⟨_, rfl⟩
 rw [← hE] at ED
 have HE := qh hE
 clear hE
 obtain ⟨V, hV⟩ : ∃ V : Value, V = qmG (if r3 = 0 ∧ q3 = 0 then some [⟨⟨a0, a1, a2⟩, ⟨a3, a4, a5⟩⟩, ⟨⟨r0, r1, r2⟩, ⟨a3, a4, a5⟩⟩, ⟨⟨a0, a1, a2⟩, ⟨q0, q1, q2⟩⟩, ⟨⟨r0, r1, r2⟩, ⟨q0, q1, q2⟩⟩] else none) := ⟨_, rfl⟩
 rw [← hV]
 have HV := qh hV
 clear hV
 go_enter func75, ntmps75
 go_upto_region 1 with fail
 obtain ⟨b, w1, hw, hb, B0, B1, K1, HB⟩ := qa7 w (LC3 a0 a1 a2 a3 a4 a5 a6) 26 ZL1 64
 rw [← hw, ← hb]; clear hw hb
 obtain ⟨c0, c1, c2, c3, c4, c5, c6⟩ := B0.out.c7
 go_upto_region 2 with (go_at_call 116; (with_reducible refine (ED.out _).mono ?_); rintro e w3 ⟨rfl, hk3⟩)
 have K4 := qh (Kept.new (Kept.new hk3 (.cells (LC0 r0 r1 r2).toArray 24)) (.cells (LC0 q0 q1 q2).toArray 24))
 have B2 := qh ((Bx.new w3 (LC0 r0 r1 r2) 24 w3.heap.size rfl).kept (Kept.new (Below.refl _ _) (.cells (LC0 q0 q1 q2).toArray 24)))
 have B3 := qh (Bx.new (World.alloc w3 (.cells (LC0 r0 r1 r2).toArray 24)) (LC0 q0 q1 q2) 24 (w3.heap.size + 1) (by simp))
 obtain ⟨g, hg⟩ : ∃ g, g = w3.heap.size := ⟨_, rfl⟩
 rw [← hg] at B2 B3 ⊢
 clear hg hk3
 generalize (World.alloc (World.alloc w3 (.cells (LC0 r0 r1 r2).toArray 24)) (.cells (LC0 q0 q1 q2).toArray 24)) = w4 at *
 clear c0 c1 c2 c3 c4 c5 c6 ED
 by_cases hE0 : E = 0
 ·have hrq : r3 = 0 ∧ q3 = 0 := by
   have := HE.out
   rw [hE0] at this
   by_cases h : r3 = 0 ∧ q3 = 0
   ·exact h
   ·rw [if_neg h] at this; omega
  have HV2 := qh (show V = .tuple #[.agg #[.bool a0, .string a1, .int .i64 a2, .bool a3, .string a4, .int .i64 a5, .bool r0, .string r1, .int .i64 r2, .bool a3, .string a4, .int .i64 a5, .bool a0, .string a1, .int .i64 a2, .bool q0, .string q1, .int .i64 q2, .bool r0, .string r1, .int .i64 r2, .bool q0, .string q1, .int .i64 q2], .int .i64 0] by rw [HV.out, if_pos hrq]; rfl)
  subst hE0
  go_upto_region 4 with fail
  obtain ⟨c0, c1, c2, c3, c4, c5, c6⟩ := (B0.out.kept K4.out).c7
  obtain ⟨d0, d1, d2⟩ := B2.out.c3
  obtain ⟨e0, e1, e2⟩ := B3.out.c3
  refine wp_region_list ?_
  refine wpList_plain rfl fun K hK => ?_
  first | (refine BigFrame.wp_move _ rfl (hK _ _ ?_)) | (go_step; refine hK _ _ ?_)
  clear hK K
  refine wpList_plain rfl fun K hK => ?_
  first | (refine BigFrame.wp_move _ rfl (hK _ _ ?_)) | (go_step; refine hK _ _ ?_)
  clear hK K
  refine wpList_plain rfl fun K hK => ?_
  first | (refine BigFrame.wp_move _ rfl (hK _ _ ?_)) | (go_step; refine hK _ _ ?_)
  clear hK K
  refine wpList_plain rfl fun K hK => ?_
  first | (refine BigFrame.wp_move _ rfl (hK _ _ ?_)) | (go_step; refine hK _ _ ?_)
  clear hK K
  refine wpList_plain rfl fun K hK => ?_
  first | (refine BigFrame.wp_move _ rfl (hK _ _ ?_)) | (go_step; refine hK _ _ ?_)
  clear hK K
  refine wpList_plain rfl fun K hK => ?_
  first | (refine BigFrame.wp_move _ rfl (hK _ _ ?_)) | (go_step; refine hK _ _ ?_)
  clear hK K
  refine wpList_plain rfl fun K hK => ?_
  first | (refine BigFrame.wp_move _ rfl (hK _ _ ?_)) | (go_step; refine hK _ _ ?_)
  clear hK K
  refine wpList_plain rfl fun K hK => ?_
  first | (refine BigFrame.wp_move _ rfl (hK _ _ ?_)) | (go_step; refine hK _ _ ?_)
  clear hK K
  refine wpList_plain rfl fun K hK => ?_
  first | (refine BigFrame.wp_move _ rfl (hK _ _ ?_)) | (go_step; refine hK _ _ ?_)
  clear hK K
  refine wpList_plain rfl fun K hK => ?_
  first | (refine BigFrame.wp_move _ rfl (hK _ _ ?_)) | (go_step; refine hK _ _ ?_)
  clear hK K
  refine wpList_plain rfl fun K hK => ?_
  first | (refine BigFrame.wp_move _ rfl (hK _ _ ?_)) | (go_step; refine hK _ _ ?_)
  clear hK K
  refine wpList_plain rfl fun K hK => ?_
  first | (refine BigFrame.wp_move _ rfl (hK _ _ ?_)) | (go_step; refine hK _ _ ?_)
  clear hK K
  refine wpList_plain rfl fun K hK => ?_
  first | (refine BigFrame.wp_move _ rfl (hK _ _ ?_)) | (go_step; refine hK _ _ ?_)
  clear hK K
  refine wpList_plain rfl fun K hK => ?_
  first | (refine BigFrame.wp_move _ rfl (hK _ _ ?_)) | (go_step; refine hK _ _ ?_)
  clear hK K
  refine wpList_plain rfl fun K hK => ?_
  first | (refine BigFrame.wp_move _ rfl (hK _ _ ?_)) | (go_step; refine hK _ _ ?_)
  clear hK K
  refine wpList_plain rfl fun K hK => ?_
  first | (refine BigFrame.wp_move _ rfl (hK _ _ ?_)) | (go_step; refine hK _ _ ?_)
  clear hK K
  refine wpList_plain rfl fun K hK => qaK (LC4 a0 a1 a2 a3 a4 a5 r0 r1 r2 a3 a4 a5 a0 a1 a2 q0 q1 q2 r0 r1 r2 q0 q1 q2) _ _ rfl (by kernel_rfl) (hK _ _ ?_)
  clear hK K
  refine wpList_plain rfl fun K hK => qaa (b := b + 1) (n := 24) _ _ rfl rfl rfl (B1.out.kept K4.out) rfl rfl (by kernel_rfl) rfl (hK _ _ ?_)
  clear hK K
  have B9 := qh ((B1.out.kept K4.out).row (LC4 a0 a1 a2 a3 a4 a5 r0 r1 r2 a3 a4 a5 a0 a1 a2 q0 q1 q2 r0 r1 r2 q0 q1 q2))
  have K9 := qh (Kept.row (K1.out.trans' K4.out) (show w.heap.size ≤ b + 1 by have := HB.out; omega) (LC4 a0 a1 a2 a3 a4 a5 r0 r1 r2 a3 a4 a5 a0 a1 a2 q0 q1 q2 r0 r1 r2 q0 q1 q2))
  generalize World.setRow _ _ _ = w9 at *
  refine wpList_plain rfl fun K hK => ?_
  go_step
  refine hK _ _ ?_
  clear hK K
  go_wp2_with fail
  refine qbZ results75 underlying64 rfl (by kernel_rfl) rfl rfl B9.out rfl ⟨by rw [HV2.out]; rfl, K9.out⟩
 ·have hrq : ¬ (r3 = 0 ∧ q3 = 0) := fun h => hE0 (by rw [HE.out, if_pos h])
  have HE4 : E = 4 := by rw [HE.out, if_neg hrq]
  have HV2 := qh (show V = .tuple #[.agg ZL1.toArray, .int .i64 4] by rw [HV.out, if_neg hrq]; rfl)
  subst HE4
  go_upto_region 3 with fail
  refine wp_region_list (wpList_plain rfl fun K hK => qaK ZL1 _ _ rfl (by kernel_rfl) (hK _ _ ?_))
  clear hK K
  refine wpList_plain rfl fun K hK => BigFrame.wp_move _ rfl (hK _ _ ?_)
  clear hK K
  refine wpList_plain rfl fun K hK => qaa (b := b + 1) (n := 24) _ _ rfl rfl rfl (B1.out.kept K4.out) rfl rfl (by kernel_rfl) rfl (hK _ _ ?_)
  clear hK K
  have B9 := qh ((B1.out.kept K4.out).row ZL1)
  have K9 := qh (Kept.row (K1.out.trans' K4.out) (show w.heap.size ≤ b + 1 by have := HB.out; omega) ZL1)
  generalize World.setRow _ _ _ = w9 at *
  go_wp2_with fail
  refine qbZ results75 underlying64 rfl (by kernel_rfl) rfl rfl B9.out rfl ⟨by rw [HV2.out]; rfl, K9.out⟩
theorem qkm (s : SqD) (g : GsD) (w : World) (hs : sqB s = true) (hg : gsB g = true) :
  Calls prog 99 #[.agg #[.bool s.left.neg, .string s.left.n, .int .i64 s.left.e, .bool s.low.neg, .string s.low.n, .int .i64 s.low.e, .int .i64 s.e], .agg #[.bool g.re.neg, .string g.re.n, .int .i64 g.re.e, .bool g.im.neg, .string g.im.n, .int .i64 g.im.e]] w fun en w' => en = .returned (ql (qcg s g)) ∧ Kept w w' := by
 have ED := qh (fun W => qg2 s W hs)
 obtain ⟨hs1, hs2, hs3, hs4⟩ := qas.1 hs
 obtain ⟨hg1, hg2⟩ := qam.1 hg
 have hX : qad (qaN s).1 = true := qce _ _ hs1
 have hY : qad (qaZ s).1 = true := qce _ _ hs2
 have D1 := qh (fun W => qcZ s.left g.re W hs1 hg1)
 have D2 := qh (fun W => qcZ g.re (qaN s).1 W hg1 hX)
 have D3 := qh (fun W => qcZ s.low g.im W hs2 hg2)
 have D4 := qh (fun W => qcZ g.im (qaZ s).1 W hg2 hY)
 unfold qcg
 generalize qbx s.left g.re = n1 at *
 generalize qbx g.re (qaN s).1 = n2 at *
 generalize qbx s.low g.im = n3 at *
 generalize qbx g.im (qaZ s).1 = n4 at *
 generalize qaN s = R at *
 generalize qaZ s = Q at *
 obtain ⟨⟨a0, a1, a2⟩, ⟨a3, a4, a5⟩, a6⟩ := s
 obtain ⟨⟨x0, x1, x2⟩, ⟨x3, x4, x5⟩⟩ := g
 obtain ⟨⟨r0, r1, r2⟩, r3⟩ := R
 obtain ⟨⟨q0, q1, q2⟩, q3⟩ := Q
 simp only at ED D1 D2 D3 D4 ⊢
 clear hs hg hs1 hs2 hs3 hs4 hg1 hg2 hX hY
 obtain ⟨E, hE⟩ : ∃ E : Int, E = if r3 = 0 ∧ q3 = 0 then 0 else 4 := ⟨_, rfl⟩
 rw [← hE] at ED
 have HE := qh hE
 clear hE
 obtain ⟨V, hV⟩ : ∃ V : Value, V = ql (if r3 = 0 ∧ q3 = 0 then some (decide (n1 ≤ 0) && (decide (n2 ≤ 0) && (decide (n3 ≤ 0) && decide (n4 ≤ 0)))) else none) := ⟨_, rfl⟩
 rw [← hV]
 have HV := qh hV
 clear hV
 go_enter func99, ntmps99
 go_upto_region 1 with fail
 obtain ⟨b, w1, hw, hb, B0, B1, K1, HB⟩ := qa7 w (LC3 a0 a1 a2 a3 a4 a5 a6) 26 (LC1 x0 x1 x2 x3 x4 x5) 28
 rw [← hw, ← hb]; clear hw hb
 obtain ⟨c0, c1, c2, c3, c4, c5, c6⟩ := B0.out.c7
 go_upto_region 2 with (go_at_call 116; (with_reducible refine (ED.out _).mono ?_); rintro e w3 ⟨rfl, hk3⟩)
 have K4 := qh (Kept.new (Kept.new hk3 (.cells (LC0 r0 r1 r2).toArray 24)) (.cells (LC0 q0 q1 q2).toArray 24))
 have B2 := qh ((Bx.new w3 (LC0 r0 r1 r2) 24 w3.heap.size rfl).kept (Kept.new (Below.refl _ _) (.cells (LC0 q0 q1 q2).toArray 24)))
 have B3 := qh (Bx.new (World.alloc w3 (.cells (LC0 r0 r1 r2).toArray 24)) (LC0 q0 q1 q2) 24 (w3.heap.size + 1) (by simp))
 obtain ⟨g, hg⟩ : ∃ g, g = w3.heap.size := ⟨_, rfl⟩
 rw [← hg] at B2 B3 ⊢
 clear hg hk3
 generalize (World.alloc (World.alloc w3 (.cells (LC0 r0 r1 r2).toArray 24)) (.cells (LC0 q0 q1 q2).toArray 24)) = w4 at *
 clear c0 c1 c2 c3 c4 c5 c6 ED
 by_cases hE0 : E = 0
 ·have hrq : r3 = 0 ∧ q3 = 0 := by
   have := HE.out
   rw [hE0] at this
   by_cases h : r3 = 0 ∧ q3 = 0
   ·exact h
   ·rw [if_neg h] at this; omega
  have HV2 := qh (show V = .tuple #[.bool (decide (n1 ≤ 0) && (decide (n2 ≤ 0) && (decide (n3 ≤ 0) && decide (n4 ≤ 0)))), .int .i64 0] by rw [HV.out, if_pos hrq]; rfl)
  subst hE0
  clear hrq HE
  have SK : Hid (∀ W, Kept w4 W → ((W.cell? ⟨b, 0, none⟩ = some (.bool a0) ∧ W.cell? ⟨b, 1, none⟩ = some (.string a1) ∧ W.cell? ⟨b, 2, none⟩ = some (.int .i64 a2) ∧ W.cell? ⟨b, 3, none⟩ = some (.bool a3) ∧ W.cell? ⟨b, 4, none⟩ = some (.string a4) ∧ W.cell? ⟨b, 5, none⟩ = some (.int .i64 a5) ∧ W.cell? ⟨b, 6, none⟩ = some (.int .i64 a6)) ∧ W.cell? ⟨b + 1, 0, none⟩ = some (.bool x0) ∧ W.cell? ⟨b + 1, 1, none⟩ = some (.string x1) ∧ W.cell? ⟨b + 1, 2, none⟩ = some (.int .i64 x2) ∧ W.cell? ⟨b + 1, 3, none⟩ = some (.bool x3) ∧ W.cell? ⟨b + 1, 4, none⟩ = some (.string x4) ∧ W.cell? ⟨b + 1, 5, none⟩ = some (.int .i64 x5)) ∧ (W.cell? ⟨g, 0, none⟩ = some (.bool r0) ∧ W.cell? ⟨g, 1, none⟩ = some (.string r1) ∧ W.cell? ⟨g, 2, none⟩ = some (.int .i64 r2)) ∧ W.cell? ⟨g + 1, 0, none⟩ = some (.bool q0) ∧ W.cell? ⟨g + 1, 1, none⟩ = some (.string q1) ∧ W.cell? ⟨g + 1, 2, none⟩ = some (.int .i64 q2)) := fun W h => ⟨⟨((B0.out.kept K4.out).kept h).c7, ((B1.out.kept K4.out).kept h).c6⟩, (B2.out.kept h).c3, (B3.out.kept h).c3⟩
  obtain ⟨⟨⟨c0, c1, c2, c3, c4, c5, c6⟩, d0, d1, d2, d3, d4, d5⟩, ⟨e0, e1, e2⟩, f0, f1, f2⟩ := SK.out _ (Below.refl _ _)
  go_wp2_with fail
  (with_reducible refine (D1.out _).mono ?_)
  rintro e w5 ⟨rfl, hk⟩
  have K5 := qh (hk)
  clear hk
  clear c0 c1 c2 c3 c4 c5 c6 d0 d1 d2 d3 d4 d5 e0 e1 e2 f0 f1 f2
  obtain ⟨⟨⟨c0, c1, c2, c3, c4, c5, c6⟩, d0, d1, d2, d3, d4, d5⟩, ⟨e0, e1, e2⟩, f0, f1, f2⟩ := SK.out _ K5.out
  by_cases h1 : n1 ≤ 0
  ·have H1 := qh h1
   go_wp2_with fail
   (with_reducible refine (D2.out _).mono ?_)
   rintro e w6 ⟨rfl, hk⟩
   have K6 := qh (K5.out.trans' hk)
   clear hk
   clear c0 c1 c2 c3 c4 c5 c6 d0 d1 d2 d3 d4 d5 e0 e1 e2 f0 f1 f2
   obtain ⟨⟨⟨c0, c1, c2, c3, c4, c5, c6⟩, d0, d1, d2, d3, d4, d5⟩, ⟨e0, e1, e2⟩, f0, f1, f2⟩ := SK.out _ K6.out
   by_cases h2 : n2 ≤ 0
   ·have H2 := qh h2
    go_wp2_with fail
    (with_reducible refine (D3.out _).mono ?_)
    rintro e w7 ⟨rfl, hk⟩
    have K7 := qh (K6.out.trans' hk)
    clear hk
    clear c0 c1 c2 c3 c4 c5 c6 d0 d1 d2 d3 d4 d5 e0 e1 e2 f0 f1 f2
    obtain ⟨⟨⟨c0, c1, c2, c3, c4, c5, c6⟩, d0, d1, d2, d3, d4, d5⟩, ⟨e0, e1, e2⟩, f0, f1, f2⟩ := SK.out _ K7.out
    by_cases h3 : n3 ≤ 0
    ·have H3 := qh h3
     go_wp2_with fail
     (with_reducible refine (D4.out _).mono ?_)
     rintro e w8 ⟨rfl, hk⟩
     have K8 := qh (K7.out.trans' hk)
     clear hk
     by_cases h4 : n4 ≤ 0
     ·have H4 := qh h4
      go_wp2_with fail
      exact bodyPost_ret (v := .tuple #[.bool true, .int .i64 0]) (by simp [results, results99, go_sem]) rfl ⟨by rw [HV2.out, decide_eq_true H1.out, decide_eq_true H2.out, decide_eq_true H3.out, decide_eq_true H4.out]; rfl, (K1.out.trans' K4.out).trans' K8.out⟩
     ·have H4 := qh h4
      go_wp2_with fail
      exact bodyPost_ret (v := .tuple #[.bool false, .int .i64 0]) (by simp [results, results99, go_sem]; have := H4.out; omega) rfl ⟨by rw [HV2.out, decide_eq_true H1.out, decide_eq_true H2.out, decide_eq_true H3.out, decide_eq_false (show ¬ n4 ≤ 0 by have := H4.out; omega)]; rfl, (K1.out.trans' K4.out).trans' K8.out⟩
    ·have H3 := qh h3
     go_wp2_with fail
     exact bodyPost_ret (v := .tuple #[.bool false, .int .i64 0]) (by simp [results, results99, go_sem]) rfl ⟨by rw [HV2.out, decide_eq_true H1.out, decide_eq_true H2.out, decide_eq_false (show ¬ n3 ≤ 0 by have := H3.out; omega)]; rfl, (K1.out.trans' K4.out).trans' K7.out⟩
   ·have H2 := qh h2
    go_wp2_with fail
    exact bodyPost_ret (v := .tuple #[.bool false, .int .i64 0]) (by simp [results, results99, go_sem]) rfl ⟨by rw [HV2.out, decide_eq_true H1.out, decide_eq_false (show ¬ n2 ≤ 0 by have := H2.out; omega)]; rfl, (K1.out.trans' K4.out).trans' K6.out⟩
  ·have H1 := qh h1
   go_wp2_with fail
   exact bodyPost_ret (v := .tuple #[.bool false, .int .i64 0]) (by simp [results, results99, go_sem]) rfl ⟨by rw [HV2.out, decide_eq_false (show ¬ n1 ≤ 0 by have := H1.out; omega)]; rfl, (K1.out.trans' K4.out).trans' K5.out⟩
 ·have hrq : ¬ (r3 = 0 ∧ q3 = 0) := fun h => hE0 (by rw [HE.out, if_pos h])
  have HV2 := qh (show V = .tuple #[.bool false, .int .i64 4] by rw [HV.out, if_neg hrq]; rfl)
  clear hrq
  go_wp2_with fail
  exact bodyPost_ret (v := .tuple #[.bool false, .int .i64 4]) (by simp [results, results99, go_sem]) rfl ⟨by rw [HV2.out], K1.out.trans' K4.out⟩
def qb6 (s : SqD) : List Value := (LC3 s.left.neg s.left.n s.left.e s.low.neg s.low.n s.low.e s.e)
def qex (l : Option (List SqD)) (v : Value) : Prop := match l with
 | none => ∃ e : Int, e ≠ 0 ∧ v = .tuple #[.agg ZL2.toArray, .int .i64 e]
 | some l => v = .tuple #[.agg (l.flatMap qb6).toArray, .int .i64 0]
theorem qky (s : SqD) (w : World) (hs : sqB s = true) :
  Calls prog 87 #[.agg #[.bool s.left.neg, .string s.left.n, .int .i64 s.left.e, .bool s.low.neg, .string s.low.n, .int .i64 s.low.e, .int .i64 s.e]] w fun en w' => ∃ v, en = .returned v ∧ qex (qbp s) v ∧ Kept w w' := by
 have MID := qh (fun W => qep s W hs)
 obtain ⟨-, -, hs3, hs4⟩ := qas.1 hs
 have HM : (qbu s).2 = 0 ∨ qbu s = (zG, 4) := qeG _ _
 unfold qbp
 generalize qbu s = M at *
 obtain ⟨⟨a0, a1, a2⟩, ⟨a3, a4, a5⟩, a6⟩ := s
 obtain ⟨⟨⟨m0, m1, m2⟩, ⟨m3, m4, m5⟩⟩, m6⟩ := M
 simp only at MID HM hs3 hs4 ⊢
 have hm : m6 = 0 ∨ m6 = 4 := HM.imp id (fun h => (Prod.mk.inj h).2)
 clear hs HM
 obtain ⟨L, hL⟩ : ∃ L : Option (List SqD), L = if a6 = -4096 then none else if m6 = 0 then some [⟨⟨a0, a1, a2⟩, ⟨a3, a4, a5⟩, a6 - 1⟩, ⟨⟨m0, m1, m2⟩, ⟨a3, a4, a5⟩, a6 - 1⟩, ⟨⟨a0, a1, a2⟩, ⟨m3, m4, m5⟩, a6 - 1⟩, ⟨⟨m0, m1, m2⟩, ⟨m3, m4, m5⟩, a6 - 1⟩] else none := ⟨_, rfl⟩
 rw [← hL]
 have HL := qh hL
 clear hL
 by_cases h1 : a6 = -4096
 ·subst h1
  go_enter func87, ntmps87
  go_upto_region 1 with fail
  obtain ⟨b, w1, hw, hb, B0, B1, K1, HB⟩ := qa7 w (LC3 a0 a1 a2 a3 a4 a5 (-4096)) 26 ZL2 141
  rw [← hw, ← hb]; clear hw hb
  obtain ⟨c0, c1, c2, c3, c4, c5, c6⟩ := B0.out.c7
  go_upto_region 2 with fail
  refine wp_region_list (wpList_plain rfl fun K hK => qaK ZL2 _ _ rfl (by kernel_rfl) (hK _ _ ?_))
  clear hK K
  refine wpList_plain rfl fun K hK => qaa (b := b + 1) (n := 28) _ _ rfl rfl rfl B1.out rfl rfl (by kernel_rfl) rfl (hK _ _ ?_)
  clear hK K
  have B9 := qh (B1.out.row ZL2)
  have K9 := qh (Kept.row K1.out (show w.heap.size ≤ b + 1 by have := HB.out; omega) ZL2)
  generalize World.setRow _ _ _ = w9 at *
  go_wp2_with fail
  refine qbZ results87 underlying141 rfl (by kernel_rfl) rfl rfl B9.out rfl ⟨_, rfl, by (first | rw [HL.out, if_pos rfl] | rw [HL.out]); exact ⟨240, by omega, rfl⟩, K9.out⟩
 ·have hh : IntKind.i64.wrap (a6 - 1) = a6 - 1 := IntWalk.i64_in _ (by omega)
  have H1 := qh h1
  go_enter func87, ntmps87
  go_upto_region 1 with fail
  obtain ⟨b, w1, hw, hb, B0, B1, K1, HB⟩ := qa7 w (LC3 a0 a1 a2 a3 a4 a5 a6) 26 ZL2 141
  rw [← hw, ← hb]; clear hw hb
  obtain ⟨c0, c1, c2, c3, c4, c5, c6⟩ := B0.out.c7
  go_upto_region 4 with (go_at_call 76; (with_reducible refine (MID.out _).mono ?_); rintro e w3 ⟨rfl, hk3⟩)
  have K4 := qh (Kept.new hk3 (.cells (LC1 m0 m1 m2 m3 m4 m5).toArray 28))
  have B2 := qh (Bx.new w3 (LC1 m0 m1 m2 m3 m4 m5) 28 w3.heap.size rfl)
  obtain ⟨g, hg⟩ : ∃ g, g = w3.heap.size := ⟨_, rfl⟩
  rw [← hg] at B2 ⊢
  clear hg hk3
  generalize (w3.alloc (.cells (LC1 m0 m1 m2 m3 m4 m5).toArray 28)) = w4 at *
  clear c0 c1 c2 c3 c4 c5 c6 MID
  rcases hm with rfl | rfl
  ·obtain ⟨c0, c1, c2, c3, c4, c5, c6⟩ := (B0.out.kept K4.out).c7
   obtain ⟨d0, d1, d2, d3, d4, d5⟩ := B2.out.c6
   go_upto_region 7 with fail
   refine wp_region_list ?_
   refine wpList_plain rfl fun K hK => ?_
   first | (refine BigFrame.wp_move _ rfl (hK _ _ ?_)) | (go_step; refine hK _ _ ?_)
   clear hK K
   refine wpList_plain rfl fun K hK => ?_
   first | (refine BigFrame.wp_move _ rfl (hK _ _ ?_)) | (go_step; refine hK _ _ ?_)
   clear hK K
   refine wpList_plain rfl fun K hK => ?_
   first | (refine BigFrame.wp_move _ rfl (hK _ _ ?_)) | (go_step; refine hK _ _ ?_)
   clear hK K
   refine wpList_plain rfl fun K hK => ?_
   first | (refine BigFrame.wp_move _ rfl (hK _ _ ?_)) | (go_step; refine hK _ _ ?_)
   clear hK K
   refine wpList_plain rfl fun K hK => ?_
   first | (refine BigFrame.wp_move _ rfl (hK _ _ ?_)) | (go_step; refine hK _ _ ?_)
   clear hK K
   refine wpList_plain rfl fun K hK => ?_
   first | (refine BigFrame.wp_move _ rfl (hK _ _ ?_)) | (go_step; refine hK _ _ ?_)
   clear hK K
   refine wpList_plain rfl fun K hK => ?_
   first | (refine BigFrame.wp_move _ rfl (hK _ _ ?_)) | (go_step; refine hK _ _ ?_)
   clear hK K
   refine wpList_plain rfl fun K hK => ?_
   first | (refine BigFrame.wp_move _ rfl (hK _ _ ?_)) | (go_step; refine hK _ _ ?_)
   clear hK K
   refine wpList_plain rfl fun K hK => ?_
   first | (refine BigFrame.wp_move _ rfl (hK _ _ ?_)) | (go_step; refine hK _ _ ?_)
   clear hK K
   refine wpList_plain rfl fun K hK => ?_
   first | (refine BigFrame.wp_move _ rfl (hK _ _ ?_)) | (go_step; refine hK _ _ ?_)
   clear hK K
   refine wpList_plain rfl fun K hK => ?_
   first | (refine BigFrame.wp_move _ rfl (hK _ _ ?_)) | (go_step; refine hK _ _ ?_)
   clear hK K
   refine wpList_plain rfl fun K hK => ?_
   first | (refine BigFrame.wp_move _ rfl (hK _ _ ?_)) | (go_step; refine hK _ _ ?_)
   clear hK K
   refine wpList_plain rfl fun K hK => ?_
   first | (refine BigFrame.wp_move _ rfl (hK _ _ ?_)) | (go_step; refine hK _ _ ?_)
   clear hK K
   refine wpList_plain rfl fun K hK => ?_
   first | (refine BigFrame.wp_move _ rfl (hK _ _ ?_)) | (go_step; refine hK _ _ ?_)
   clear hK K
   refine wpList_plain rfl fun K hK => ?_
   first | (refine BigFrame.wp_move _ rfl (hK _ _ ?_)) | (go_step; refine hK _ _ ?_)
   clear hK K
   refine wpList_plain rfl fun K hK => ?_
   first | (refine BigFrame.wp_move _ rfl (hK _ _ ?_)) | (go_step; refine hK _ _ ?_)
   clear hK K
   refine wpList_plain rfl fun K hK => ?_
   first | (refine BigFrame.wp_move _ rfl (hK _ _ ?_)) | (go_step; refine hK _ _ ?_)
   clear hK K
   refine wpList_plain rfl fun K hK => ?_
   first | (refine BigFrame.wp_move _ rfl (hK _ _ ?_)) | (go_step; refine hK _ _ ?_)
   clear hK K
   refine wpList_plain rfl fun K hK => ?_
   first | (refine BigFrame.wp_move _ rfl (hK _ _ ?_)) | (go_step; refine hK _ _ ?_)
   clear hK K
   refine wpList_plain rfl fun K hK => ?_
   first | (refine BigFrame.wp_move _ rfl (hK _ _ ?_)) | (go_step; refine hK _ _ ?_)
   clear hK K
   refine wpList_plain rfl fun K hK => ?_
   first | (refine BigFrame.wp_move _ rfl (hK _ _ ?_)) | (go_step; refine hK _ _ ?_)
   clear hK K
   refine wpList_plain rfl fun K hK => ?_
   first | (refine BigFrame.wp_move _ rfl (hK _ _ ?_)) | (go_step; refine hK _ _ ?_)
   clear hK K
   refine wpList_plain rfl fun K hK => ?_
   first | (refine BigFrame.wp_move _ rfl (hK _ _ ?_)) | (go_step; refine hK _ _ ?_)
   clear hK K
   refine wpList_plain rfl fun K hK => ?_
   first | (refine BigFrame.wp_move _ rfl (hK _ _ ?_)) | (go_step; refine hK _ _ ?_)
   clear hK K
   refine wpList_plain rfl fun K hK => qaK (LC5 a0 a1 a2 a3 a4 a5 (a6 - 1) m0 m1 m2 a3 a4 a5 (a6 - 1) a0 a1 a2 m3 m4 m5 (a6 - 1) m0 m1 m2 m3 m4 m5 (a6 - 1)) _ _ rfl (by kernel_rfl) (hK _ _ ?_)
   clear hK K
   refine wpList_plain rfl fun K hK => qaa (b := b + 1) (n := 28) _ _ rfl rfl rfl (B1.out.kept K4.out) rfl rfl (by kernel_rfl) rfl (hK _ _ ?_)
   clear hK K
   have B9 := qh ((B1.out.kept K4.out).row (LC5 a0 a1 a2 a3 a4 a5 (a6 - 1) m0 m1 m2 a3 a4 a5 (a6 - 1) a0 a1 a2 m3 m4 m5 (a6 - 1) m0 m1 m2 m3 m4 m5 (a6 - 1)))
   have K9 := qh (Kept.row (K1.out.trans' K4.out) (show w.heap.size ≤ b + 1 by have := HB.out; omega) (LC5 a0 a1 a2 a3 a4 a5 (a6 - 1) m0 m1 m2 a3 a4 a5 (a6 - 1) a0 a1 a2 m3 m4 m5 (a6 - 1) m0 m1 m2 m3 m4 m5 (a6 - 1)))
   generalize World.setRow _ _ _ = w9 at *
   refine wpList_plain rfl fun K hK => ?_
   go_step
   refine hK _ _ ?_
   clear hK K
   go_wp2_with fail
   refine qbZ results87 underlying141 rfl (by kernel_rfl) rfl rfl B9.out rfl ⟨_, rfl, by (first | rw [HL.out, if_neg H1.out, if_pos rfl] | rw [HL.out, if_neg H1.out] | rw [HL.out]); rfl, K9.out⟩
  ·go_upto_region 5 with fail
   refine wp_region_list (wpList_plain rfl fun K hK => qaK ZL2 _ _ rfl (by kernel_rfl) (hK _ _ ?_))
   clear hK K
   refine wpList_plain rfl fun K hK => BigFrame.wp_move _ rfl (hK _ _ ?_)
   clear hK K
   refine wpList_plain rfl fun K hK => qaa (b := b + 1) (n := 28) _ _ rfl rfl rfl (B1.out.kept K4.out) rfl rfl (by kernel_rfl) rfl (hK _ _ ?_)
   clear hK K
   have B9 := qh ((B1.out.kept K4.out).row ZL2)
   have K9 := qh (Kept.row (K1.out.trans' K4.out) (show w.heap.size ≤ b + 1 by have := HB.out; omega) ZL2)
   generalize World.setRow _ _ _ = w9 at *
   go_wp2_with fail
   refine qbZ results87 underlying141 rfl (by kernel_rfl) rfl rfl B9.out rfl ⟨_, rfl, by (first | rw [HL.out, if_neg H1.out, if_neg (by omega)] | rw [HL.out, if_neg H1.out] | rw [HL.out]); exact ⟨4, by omega, rfl⟩, K9.out⟩
end
section
attribute [local go_sem] run_float_arith qaI qaJ qau qah qae
attribute [local go_sem] Oper.semAt_some
theorem qmC (x r : Nat) (h : FloatKind.f64.format.sqrt x = some r) (w : World) : (callFunc 128 #[.float .f64 x]).run prog w = .ok (.value (.float .f64 r)) w := by
 refine (Go.run_callFunc_extern (e := Extern.MathSqrt.sqrt) func128 (by kernel_rfl) (by kernel_rfl) (by kernel_rfl) (by kernel_rfl) _ w).trans ?_
 have e : Extern.MathSqrt.sqrt #[.float .f64 x] = pure (.float .f64 r) := by
  show (match FloatKind.f64.format.sqrt x with
   | some r => pure (.float .f64 r)
   | none => do pure (.float .f64 (← choose (.nanBits .f64 x x))) : Sem Value) = _
  rw [h]
 rw [e]; rfl
theorem qmr {x : Nat} (h : x ≤ qaP) : ∃ r, FloatKind.f64.format.sqrt x = some r := by
 have key : ∃ d, (Ieee.double.read x).root (Ieee.double.fractionBits + 2) = some d := by
  by_cases h1 : x = qaP
  ·rw [h1, qjl (by decide)]
   exact ⟨_, rfl⟩
  ·have h2 : x < qaP := by omega
   have hb := qgw
   rw [qcF (by omega) (by unfold qbQ; rw [Nat.mod_eq_of_lt (by omega)]; exact decide_eq_true h2)]
   rw [decide_eq_false (by unfold SG; omega)]
   unfold Ieee.Datum.root
   split
   ·rename_i hd; cases hd
   ·rename_i hd; cases hd
   ·rename_i s m i hd
    injection hd with e1 e2 e3
    subst e1
    split
    ·exact ⟨_, rfl⟩
    ·exact ⟨_, rfl⟩
 obtain ⟨d, hd⟩ := key
 refine ⟨Ieee.double.write d, ?_⟩
 show ((Ieee.double.read x).root (Ieee.double.fractionBits + 2)).map Ieee.double.write = _
 rw [hd]; rfl
theorem qmd {d : DyD} (hd : qad d = true) (h : 0 ≤ d.num) : qaQ d ≤ qaP := by
 by_cases h0 : d.num = 0
 ·rw [(qag hd).2.1 h0]; decide
 ·obtain ⟨p, hp⟩ := qdh d.num.natAbs
  rw [qe5 h0 hp, qcp hd, decide_eq_false (by omega), qdw]
  exact qgx _ _
set_option maxRecDepth 100000 in
set_option maxHeartbeats 3200000 in
theorem qlV (x r : Nat) (h : FloatKind.f64.format.sqrt x = some r) (w : World) : Calls prog 84 #[.float .f64 x] w fun e w' => e = .returned (.float .f64 r) ∧ w' = w := by
 have H := qmC x r h
 go_enter func84, ntmps84
 go_wp2_with fail
 go_ret
 exact ⟨rfl, rfl⟩
theorem qdY {d : DyD} (hd : qad d = true) : qaQ d < 18446744073709551616 := by
 by_cases h0 : d.num = 0
 ·rw [(qag hd).2.1 h0]; decide
 ·obtain ⟨p, hp⟩ := qdh d.num.natAbs
  rw [qe5 h0 hp]
  have h1 := qgx (qbc d.num.natAbs d.e (qan p d.e)) (qan p d.e)
  have h2 := qgw
  cases d.neg
  ·rw [qdw]; omega
  ·rw [show ∀ x, Ieee.double.word true x = 9223372036854775808 + x from fun _ => rfl]; omega
theorem qg8 {x : Nat} (h : ¬ qbQ x = true) : qa9 x = (zD, 5) := by unfold qa9; rw [if_neg h]
theorem qiu (x y : Nat) : gsB (qbE x y).1 = true := by
 unfold qbE; split
 ·exact qam.2 ⟨qfj x, qfj y⟩
 ·rfl
theorem qiG (x y : Nat) : ((qbQ x && qbQ y) = true → (qbE x y).2 = 0) ∧ ((qbE x y).2 = 0 → (qbQ x && qbQ y) = true ∧ (⟨(qa9 x).1, (qa9 y).1⟩ : GsD) = (qbE x y).1) := by
 unfold qbE
 refine ⟨fun h => ?_, fun h => ?_⟩
 ·rw [Bool.and_eq_true] at h
  rw [if_pos ⟨qgU h.1, qgU h.2⟩]
 ·by_cases h1 : (qa9 x).2 = 0 ∧ (qa9 y).2 = 0
  ·rw [if_pos h1]
   refine ⟨?_, rfl⟩
   rw [Bool.and_eq_true]
   constructor
   ·by_cases h2 : qbQ x = true
    ·exact h2
    ·rw [qg8 h2] at h1; exact absurd h1.1 (by decide)
   ·by_cases h2 : qbQ y = true
    ·exact h2
    ·rw [qg8 h2] at h1; exact absurd h1.2 (by decide)
  ·rw [if_neg h1] at h; exact absurd h (by decide)
theorem qeo {z e : Int} (h : 0 ≤ z) : 0 ≤ (qbh z e).1.num := by
 unfold qbh
 split
 ·exact Int.le_refl _
 ·split
  ·rw [qoe]
   exact Int.mul_nonneg (by rcases Int.lt_trichotomy z 0 with h1 | h1 | h1; omega; rw [h1]; decide; rw [Int.sign_eq_one_of_pos h1]; decide) (Int.natCast_nonneg _)
  ·exact Int.le_refl _
theorem qiN {a b : DyD} (ha : 0 ≤ a.num) (hb : 0 ≤ b.num) : 0 ≤ (qaS a b).1.num := by
 unfold qaS
 split
 ·exact hb
 ·split
  ·exact ha
  ·split
   ·exact Int.le_refl _
   ·exact qeo (Int.add_nonneg (Int.mul_nonneg ha (Int.le_of_lt (Int.pow_pos (by omega)))) (Int.mul_nonneg hb (Int.le_of_lt (Int.pow_pos (by omega)))))
theorem qic (g : GsD) : 0 ≤ (qbX g).1.num := by
 unfold qbX twoS
 split
 ·refine qiN (qeo ?_) (qeo ?_)
  ·rcases Int.lt_trichotomy g.re.num 0 with h | h | h
   ·exact Int.le_of_lt (Int.mul_pos_of_neg_of_neg h h)
   ·rw [h]; decide
   ·exact Int.le_of_lt (Int.mul_pos h h)
  ·rcases Int.lt_trichotomy g.im.num 0 with h | h | h
   ·exact Int.le_of_lt (Int.mul_pos_of_neg_of_neg h h)
   ·rw [h]; decide
   ·exact Int.le_of_lt (Int.mul_pos h h)
 ·exact Int.le_refl _
end
section
set_option maxHeartbeats 25600000
set_option maxRecDepth 100000
attribute [local go_sem] run_float_arith qaI qaJ qau qah qae
theorem qjo (s : SqD) (w : World) (hs : sqB s = true) (hc : qaA s = none) :
  Calls prog 41 #[.agg #[.bool s.left.neg, .string s.left.n, .int .i64 s.left.e, .bool s.low.neg, .string s.low.n, .int .i64 s.low.e, .int .i64 s.e]] w fun en w' => ∃ c1 c2 r : Nat, c1 < 18446744073709551616 ∧ c2 < 18446744073709551616 ∧ r < 18446744073709551616 ∧ en = .returned (.tuple #[.agg #[.complex .f64 c1 c2, .float .f64 r], .int .i64 (qaj s).2]) ∧ Kept w w' := by
 have HE := qh (show (qaj s).2 = 4 by unfold qaj; rw [hc])
 have CO := qh (fun W => qfF s W hs)
 have MID := qh (fun W => qep s W hs)
 rw [hc] at CO
 rw [HE.out]
 generalize qbu s = M at *
 obtain ⟨⟨a0, a1, a2⟩, ⟨a3, a4, a5⟩, a6⟩ := s
 obtain ⟨⟨⟨m0, m1, m2⟩, ⟨m3, m4, m5⟩⟩, m6⟩ := M
 simp only at CO MID ⊢
 clear hs hc
 go_enter func41, ntmps41
 go_upto_region 1 with fail
 obtain ⟨b, w1, hw, hb, B0, B1, K1, HB⟩ := qa7 w (LC3 a0 a1 a2 a3 a4 a5 a6) 26 [.complex .f64 0 0, .float .f64 0] 85
 rw [← hw, ← hb]; clear hw hb
 obtain ⟨c0, c1, c2, c3, c4, c5, c6⟩ := B0.out.c7
 clear c0 c1 c2 c3 c4 c5 c6
 refine wp_region_list ?_
 refine wpList_plain rfl fun K hK => qai (b := b) (n := 7) _ rfl rfl B0.out rfl underlying26 rfl (by kernel_rfl) (hK _ _ ?_)
 clear hK K
 refine wpList_plain rfl fun K hK => ?_
 go_step
 (with_reducible refine (CO.out _).mono ?_); rintro e w3 ⟨rfl, hk3⟩
 refine hK _ _ ?_
 clear hK K CO
 refine wpList_plain rfl fun K hK => BigFrame.wp_move _ rfl (hK _ _ ?_)
 clear hK K
 refine wpList_plain rfl fun K hK => ?_
 go_step
 refine hK _ _ ?_
 clear hK K
 refine wpList_plain rfl fun K hK => ?_
 go_step
 refine hK _ _ ?_
 clear hK K
 refine wpList_plain rfl fun K hK => ?_
 go_step
 refine hK _ _ ?_
 clear hK K
 have HG := qh (show w1.heap.size ≤ w3.heap.size from hk3.size)
 have K4 := qh (Kept.new hk3 (.cells ZL1.toArray 64))
 have B2 := qh (Bx.new w3 ZL1 64 w3.heap.size rfl)
 obtain ⟨g, hg⟩ : ∃ g, g = w3.heap.size := ⟨_, rfl⟩
 rw [← hg] at B2 HG ⊢
 clear hg hk3
 generalize World.alloc w3 _ = w4 at *
 refine wpList_plain rfl fun K hK => qaa (b := g) (n := 24) _ _ rfl rfl rfl B2.out rfl rfl (by kernel_rfl) rfl (hK _ _ ?_)
 clear hK K
 replace B2 := qh (B2.out.row ZL1)
 replace K4 := qh (Kept.row K4.out HG.out ZL1)
 generalize World.setRow w4 _ _ = w5 at *
 refine wpList_plain rfl fun K hK => ?_
 go_step
 refine hK _ _ ?_
 clear hK K
 obtain ⟨c0, c1, c2, c3, c4, c5, c6⟩ := (B0.out.kept K4.out).c7
 go_upto_region 3 with (go_at_call 76; (with_reducible refine (MID.out _).mono ?_); rintro e w6 ⟨rfl, hk6⟩)
 have K7 := qh (Kept.new (K4.out.trans' hk6) (.cells (LC1 m0 m1 m2 m3 m4 m5).toArray 28))
 have B3 := qh (Bx.new w6 (LC1 m0 m1 m2 m3 m4 m5) 28 w6.heap.size rfl)
 replace B2 := qh ((B2.out.kept hk6).kept (Kept.new (Below.refl _ _) (.cells (LC1 m0 m1 m2 m3 m4 m5).toArray 28)))
 obtain ⟨g2, hg⟩ : ∃ g, g = w6.heap.size := ⟨_, rfl⟩
 rw [← hg] at B3 ⊢
 clear hg hk6
 generalize (w6.alloc (.cells (LC1 m0 m1 m2 m3 m4 m5).toArray 28)) = w7 at *
 clear c0 c1 c2 c3 c4 c5 c6 MID
 obtain ⟨re0, re1⟩ : (World.cell? _ ⟨b + 1, 0, none⟩ = some (.complex .f64 0 0)) ∧ (World.cell? _ ⟨b + 1, 1, none⟩ = some (.float .f64 0)) := ⟨(B1.out.kept K7.out).c 0 rfl, (B1.out.kept K7.out).c 1 rfl⟩
 obtain ⟨rf0, rf1⟩ : (World.frozen? _ ⟨b + 1, 0, none⟩ = false) ∧ (World.frozen? _ ⟨b + 1, 1, none⟩ = false) := ⟨(B1.out.kept K7.out).f 0, (B1.out.kept K7.out).f 1⟩
 go_wp2_with fail
 exact bodyPost_ret (v := .tuple #[.agg #[.complex .f64 0 0, .float .f64 0], .int .i64 4]) (by simp [results, results41, go_sem, re0, re1]) rfl ⟨0, 0, 0, by decide, by decide, by decide, rfl, ((K1.out.trans' K7.out).set (b := b + 1) (by have := HB.out; omega) 0 _).set (b := b + 1) (by have := HB.out; omega) 1 _⟩
theorem qjq (s : SqD) (X Y : DyD) (w : World) (hs : sqB s = true) (hX : qad X = true) (hY : qad Y = true) (hc : qaA s = some [⟨s.left, s.low⟩, ⟨X, s.low⟩, ⟨s.left, Y⟩, ⟨X, Y⟩]) :
  Calls prog 41 #[.agg #[.bool s.left.neg, .string s.left.n, .int .i64 s.left.e, .bool s.low.neg, .string s.low.n, .int .i64 s.low.e, .int .i64 s.e]] w fun en w' => ∃ c1 c2 r : Nat, c1 < 18446744073709551616 ∧ c2 < 18446744073709551616 ∧ r < 18446744073709551616 ∧ en = .returned (.tuple #[.agg #[.complex .f64 c1 c2, .float .f64 r], .int .i64 (qaj s).2]) ∧ Kept w w' := by
 have CO : Hid (∀ W, Calls prog 75 #[.agg #[.bool s.left.neg, .string s.left.n, .int .i64 s.left.e, .bool s.low.neg, .string s.low.n, .int .i64 s.low.e, .int .i64 s.e]] W fun en w' => en = .returned (.tuple #[.agg #[.bool s.left.neg, .string s.left.n, .int .i64 s.left.e, .bool s.low.neg, .string s.low.n, .int .i64 s.low.e, .bool X.neg, .string X.n, .int .i64 X.e, .bool s.low.neg, .string s.low.n, .int .i64 s.low.e, .bool s.left.neg, .string s.left.n, .int .i64 s.left.e, .bool Y.neg, .string Y.n, .int .i64 Y.e, .bool X.neg, .string X.n, .int .i64 X.e, .bool Y.neg, .string Y.n, .int .i64 Y.e], .int .i64 0]) ∧ Kept W w') := fun W => by
  have := qfF s W hs
  rwa [hc] at this
 have MID := qh (fun W => qep s W hs)
 have HM : (qbu s).2 = 0 ∨ qbu s = (zG, 4) := qeG _ _
 have hMo : gsB (qbu s).1 = true := qgu hs
 obtain ⟨hs1, hs2, -, -⟩ := qas.1 hs
 have NEAR := qh (fun W => qks (qbu s).1 W hMo)
 have hP : qaQ (qbu s).1.re < 18446744073709551616 := qdY (qam.1 hMo).1
 have hQ : qaQ (qbu s).1.im < 18446744073709551616 := qdY (qam.1 hMo).2
 have CPX := qh (fun W => qfm _ _ W hP hQ)
 obtain ⟨E, hE⟩ : ∃ E, E = (qaj s).2 := ⟨_, rfl⟩
 rw [← hE]
 suffices key : ∀ PQ : Ending → World → Prop, (∀ (e : Int) (c1 c2 r : Nat) (W : World), e = E → c1 < 18446744073709551616 → c2 < 18446744073709551616 → r < 18446744073709551616 → Kept w W → PQ (.returned (.tuple #[.agg #[.complex .f64 c1 c2, .float .f64 r], .int .i64 e])) W) → Calls prog 41 #[.agg #[.bool s.left.neg, .string s.left.n, .int .i64 s.left.e, .bool s.low.neg, .string s.low.n, .int .i64 s.low.e, .int .i64 s.e]] w PQ from key _ (fun e c1 c2 r W he h1 h2 h3 h4 => ⟨c1, c2, r, h1, h2, h3, by rw [he], h4⟩)
 intro PQ hPQ
 have HPQ := qh hPQ
 clear hPQ
 unfold qaj at hE
 rw [hc] at hE
 simp only at hE
 generalize qbu s = M at *
 generalize qaQ M.1.re = P at *
 generalize qaQ M.1.im = Q at *
 have hZ := qiG P Q
 have hZo : gsB (qbE P Q).1 = true := qiu P Q
 obtain ⟨F, hF⟩ : ∃ F, F = qd0 ⟨(qa9 P).1, (qa9 Q).1⟩ [⟨s.left, s.low⟩, ⟨X, s.low⟩, ⟨s.left, Y⟩, ⟨X, Y⟩] zD := ⟨_, rfl⟩
 rw [← hF] at hE
 have HC0 := qh (show M.2 ≠ 0 → E = 4 from fun h => by rw [hE, if_neg h])
 have HC1 := qh (show M.2 = 0 → (qbE P Q).2 ≠ 0 → E = 5 from fun h h2 => by rw [hE, if_pos h, if_neg (fun h3 => h2 (hZ.1 h3))])
 have HC2 := qh (show M.2 = 0 → (qbE P Q).2 = 0 → F = none → E = 4 from fun h h2 h3 => by rw [hE, if_pos h, if_pos (hZ.2 h2).1, h3])
 have HC3 := qh (show M.2 = 0 → (qbE P Q).2 = 0 → ∀ n, F = some n → qbb n qbB = false → E = 5 from fun h h2 n h3 h4 => by rw [hE, if_pos h, if_pos (hZ.2 h2).1, h3]; simp only; rw [h4]; rfl)
 have HC4 := qh (show M.2 = 0 → (qbE P Q).2 = 0 → ∀ n, F = some n → qbb n qbB = true → E = 0 from fun h h2 n h3 h4 => by rw [hE, if_pos h, if_pos (hZ.2 h2).1, h3]; simp only; rw [h4]; rfl)
 have HFZ := qh (show (qbE P Q).2 = 0 → F = qd0 (qbE P Q).1 [⟨s.left, s.low⟩, ⟨X, s.low⟩, ⟨s.left, Y⟩, ⟨X, Y⟩] zD from fun h => by rw [hF, (hZ.2 h).2])
 clear hE hZ hF
 generalize qbE P Q = Z at *
 obtain ⟨⟨a0, a1, a2⟩, ⟨a3, a4, a5⟩, a6⟩ := s
 obtain ⟨x0, x1, x2⟩ := X
 obtain ⟨y0, y1, y2⟩ := Y
 obtain ⟨⟨⟨m0, m1, m2⟩, ⟨m3, m4, m5⟩⟩, m6⟩ := M
 obtain ⟨⟨⟨z0, z1, z2⟩, ⟨z3, z4, z5⟩⟩, z6⟩ := Z
 simp only at CO MID HM NEAR CPX HC0 HC1 HC2 HC3 HC4 HFZ hZo hs1 hs2 ⊢
 have hm : m6 = 0 ∨ m6 = 4 := HM.imp id (fun h => (Prod.mk.inj h).2)
 have HO := qh (And.intro hs1 (And.intro hs2 (And.intro hX hY)))
 clear hs hc HM hMo hs1 hs2 hX hY
 go_enter func41, ntmps41
 go_upto_region 1 with fail
 obtain ⟨b, w1, hw, hb, B0, B1, K1, HB⟩ := qa7 w (LC3 a0 a1 a2 a3 a4 a5 a6) 26 [.complex .f64 0 0, .float .f64 0] 85
 rw [← hw, ← hb]; clear hw hb
 obtain ⟨c0, c1, c2, c3, c4, c5, c6⟩ := B0.out.c7
 clear c0 c1 c2 c3 c4 c5 c6
 refine wp_region_list ?_
 refine wpList_plain rfl fun K hK => qai (b := b) (n := 7) _ rfl rfl B0.out rfl underlying26 rfl (by kernel_rfl) (hK _ _ ?_)
 clear hK K
 refine wpList_plain rfl fun K hK => ?_
 go_step
 (with_reducible refine (CO.out _).mono ?_); rintro e w3 ⟨rfl, hk3⟩
 refine hK _ _ ?_
 clear hK K CO
 refine wpList_plain rfl fun K hK => BigFrame.wp_move _ rfl (hK _ _ ?_)
 clear hK K
 refine wpList_plain rfl fun K hK => ?_
 go_step
 refine hK _ _ ?_
 clear hK K
 refine wpList_plain rfl fun K hK => ?_
 go_step
 refine hK _ _ ?_
 clear hK K
 refine wpList_plain rfl fun K hK => ?_
 go_step
 refine hK _ _ ?_
 clear hK K
 have HG := qh (show w1.heap.size ≤ w3.heap.size from hk3.size)
 have K4 := qh (Kept.new hk3 (.cells ZL1.toArray 64))
 have B2 := qh (Bx.new w3 ZL1 64 w3.heap.size rfl)
 obtain ⟨g, hg⟩ : ∃ g, g = w3.heap.size := ⟨_, rfl⟩
 rw [← hg] at B2 HG ⊢
 clear hg hk3
 generalize World.alloc w3 _ = w4 at *
 refine wpList_plain rfl fun K hK => qaa (b := g) (n := 24) _ _ rfl rfl rfl B2.out rfl rfl (by kernel_rfl) rfl (hK _ _ ?_)
 clear hK K
 replace B2 := qh (B2.out.row (LC4 a0 a1 a2 a3 a4 a5 x0 x1 x2 a3 a4 a5 a0 a1 a2 y0 y1 y2 x0 x1 x2 y0 y1 y2))
 replace K4 := qh (Kept.row K4.out HG.out (LC4 a0 a1 a2 a3 a4 a5 x0 x1 x2 a3 a4 a5 a0 a1 a2 y0 y1 y2 x0 x1 x2 y0 y1 y2))
 generalize World.setRow w4 _ _ = w5 at *
 refine wpList_plain rfl fun K hK => ?_
 go_step
 refine hK _ _ ?_
 clear hK K
 obtain ⟨c0, c1, c2, c3, c4, c5, c6⟩ := (B0.out.kept K4.out).c7
 go_upto_region 3 with (go_at_call 76; (with_reducible refine (MID.out _).mono ?_); rintro e w6 ⟨rfl, hk6⟩)
 have K7 := qh (Kept.new (K4.out.trans' hk6) (.cells (LC1 m0 m1 m2 m3 m4 m5).toArray 28))
 have B3 := qh (Bx.new w6 (LC1 m0 m1 m2 m3 m4 m5) 28 w6.heap.size rfl)
 replace B2 := qh ((B2.out.kept hk6).kept (Kept.new (Below.refl _ _) (.cells (LC1 m0 m1 m2 m3 m4 m5).toArray 28)))
 obtain ⟨g2, hg⟩ : ∃ g, g = w6.heap.size := ⟨_, rfl⟩
 rw [← hg] at B3 ⊢
 clear hg hk6
 generalize (w6.alloc (.cells (LC1 m0 m1 m2 m3 m4 m5).toArray 28)) = w7 at *
 clear c0 c1 c2 c3 c4 c5 c6 MID
 rcases hm with rfl | rfl
 rotate_left
 ·have HE := qh (show E = 4 from by have h9 := HC0.out; simp at h9; exact h9)
  obtain ⟨re0, re1⟩ : (World.cell? _ ⟨b + 1, 0, none⟩ = some (.complex .f64 0 0)) ∧ (World.cell? _ ⟨b + 1, 1, none⟩ = some (.float .f64 0)) := ⟨(B1.out.kept K7.out).c 0 rfl, (B1.out.kept K7.out).c 1 rfl⟩
  obtain ⟨rf0, rf1⟩ : (World.frozen? _ ⟨b + 1, 0, none⟩ = false) ∧ (World.frozen? _ ⟨b + 1, 1, none⟩ = false) := ⟨(B1.out.kept K7.out).f 0, (B1.out.kept K7.out).f 1⟩
  go_wp2_with fail
  exact bodyPost_ret (v := .tuple #[.agg #[.complex .f64 0 0, .float .f64 0], .int .i64 4]) (by simp [results, results41, go_sem, re0, re1]) rfl (HPQ.out 4 0 0 0 _ HE.out.symm (by decide) (by decide) (by decide) (((K1.out.trans' K7.out).set (b := b + 1) (by have := HB.out; omega) 0 _).set (b := b + 1) (by have := HB.out; omega) 1 _))
 obtain ⟨c0, c1, c2, c3, c4, c5⟩ := B3.out.c6
 go_upto_region 6 with (go_at_call 77; (with_reducible refine (NEAR.out _).mono ?_); rintro e w8 ⟨rfl, hk8⟩)
 have K8 := qh (K7.out.trans' hk8)
 replace B2 := qh (B2.out.kept hk8)
 clear hk8 NEAR B3 c0 c1 c2 c3 c4 c5
 go_upto_region 7 with (go_at_call 78; (with_reducible refine (CPX.out _).mono ?_); rintro e w9 ⟨rfl, hk9⟩)
 have K10 := qh (Kept.new (K8.out.trans' hk9) (.cells (LC1 z0 z1 z2 z3 z4 z5).toArray 28))
 have B4 := qh (Bx.new w9 (LC1 z0 z1 z2 z3 z4 z5) 28 w9.heap.size rfl)
 replace B2 := qh ((B2.out.kept hk9).kept (Kept.new (Below.refl _ _) (.cells (LC1 z0 z1 z2 z3 z4 z5).toArray 28)))
 obtain ⟨g3, hg⟩ : ∃ g, g = w9.heap.size := ⟨_, rfl⟩
 rw [← hg] at B4 ⊢
 clear hg hk9
 generalize (w9.alloc (.cells (LC1 z0 z1 z2 z3 z4 z5).toArray 28)) = w10 at *
 clear CPX
 by_cases hz : z6 = 0
 rotate_left
 ·have HE := qh (show E = 5 from by have h9 := HC1.out; simp at h9; exact h9 hz)
  obtain ⟨re0, re1⟩ : (World.cell? _ ⟨b + 1, 0, none⟩ = some (.complex .f64 0 0)) ∧ (World.cell? _ ⟨b + 1, 1, none⟩ = some (.float .f64 0)) := ⟨(B1.out.kept K10.out).c 0 rfl, (B1.out.kept K10.out).c 1 rfl⟩
  obtain ⟨rf0, rf1⟩ : (World.frozen? _ ⟨b + 1, 0, none⟩ = false) ∧ (World.frozen? _ ⟨b + 1, 1, none⟩ = false) := ⟨(B1.out.kept K10.out).f 0, (B1.out.kept K10.out).f 1⟩
  go_wp2_with fail
  exact bodyPost_ret (v := .tuple #[.agg #[.complex .f64 0 0, .float .f64 0], .int .i64 5]) (by simp [results, results41, go_sem, re0, re1]) rfl (HPQ.out 5 0 0 0 _ HE.out.symm (by decide) (by decide) (by decide) (((K1.out.trans' K10.out).set (b := b + 1) (by have := HB.out; omega) 0 _).set (b := b + 1) (by have := HB.out; omega) 1 _))
 subst hz
 have HF := qh (show F = qd0 ⟨⟨z0, z1, z2⟩, ⟨z3, z4, z5⟩⟩ [⟨⟨a0, a1, a2⟩, ⟨a3, a4, a5⟩⟩, ⟨⟨x0, x1, x2⟩, ⟨a3, a4, a5⟩⟩, ⟨⟨a0, a1, a2⟩, ⟨y0, y1, y2⟩⟩, ⟨⟨x0, x1, x2⟩, ⟨y0, y1, y2⟩⟩] zD from by first | exact HFZ.out | exact HFZ.out rfl)
 clear HFZ HC0 HC1
 go_upto_region 11 with fail
 have KB := qh (Kept.new (Below.refl _ w10) (.cells (LC0 false ⟨#[]⟩ 0).toArray 24))
 have B5 := qh (Bx.new w10 (LC0 false ⟨#[]⟩ 0) 24 w10.heap.size rfl)
 obtain ⟨q, hq⟩ : ∃ g, g = w10.heap.size := ⟨_, rfl⟩
 rw [← hq] at B5 ⊢
 have HQ := qh (show w1.heap.size ≤ q by have := K10.out.size; omega)
 have HGQ := qh (show g ≠ q ∧ g3 ≠ q by have := B2.out.lt; have := B4.out.lt; omega)
 clear hq
 generalize (w10.alloc (.cells (LC0 false ⟨#[]⟩ 0).toArray 24)) = w11 at *
 obtain ⟨L, hL⟩ : ∃ L : List GsD, L = [⟨⟨a0, a1, a2⟩, ⟨a3, a4, a5⟩⟩, ⟨⟨x0, x1, x2⟩, ⟨a3, a4, a5⟩⟩, ⟨⟨a0, a1, a2⟩, ⟨y0, y1, y2⟩⟩, ⟨⟨x0, x1, x2⟩, ⟨y0, y1, y2⟩⟩] := ⟨_, rfl⟩
 rw [← hL] at HF
 obtain ⟨hs1, hs2, hX, hY⟩ := HO.out
 have CK : Hid (∀ k, k < 4 → ∃ G : GsD, gsB G = true ∧ L.drop k = G :: L.drop (k + 1) ∧ ∀ W, Bx W g (LC4 a0 a1 a2 a3 a4 a5 x0 x1 x2 a3 a4 a5 a0 a1 a2 y0 y1 y2 x0 x1 x2 y0 y1 y2) → W.cell? ⟨g, k * 6, none⟩ = some (.bool G.re.neg) ∧ W.cell? ⟨g, k * 6 + 1, none⟩ = some (.string G.re.n) ∧ W.cell? ⟨g, k * 6 + 2, none⟩ = some (.int .i64 G.re.e) ∧ W.cell? ⟨g, k * 6 + 3, none⟩ = some (.bool G.im.neg) ∧ W.cell? ⟨g, k * 6 + 4, none⟩ = some (.string G.im.n) ∧ W.cell? ⟨g, k * 6 + 5, none⟩ = some (.int .i64 G.im.e)) := by
  intro k hk
  rw [hL]
  rcases (show k = 0 ∨ k = 1 ∨ k = 2 ∨ k = 3 by omega) with rfl | rfl | rfl | rfl
  ·exact ⟨_, qam.2 ⟨hs1, hs2⟩, rfl, fun W h => ⟨h.c 0 rfl, h.c 1 rfl, h.c 2 rfl, h.c 3 rfl, h.c 4 rfl, h.c 5 rfl⟩⟩
  ·exact ⟨_, qam.2 ⟨hX, hs2⟩, rfl, fun W h => ⟨h.c 6 rfl, h.c 7 rfl, h.c 8 rfl, h.c 9 rfl, h.c 10 rfl, h.c 11 rfl⟩⟩
  ·exact ⟨_, qam.2 ⟨hs1, hY⟩, rfl, fun W h => ⟨h.c 12 rfl, h.c 13 rfl, h.c 14 rfl, h.c 15 rfl, h.c 16 rfl, h.c 17 rfl⟩⟩
  ·exact ⟨_, qam.2 ⟨hX, hY⟩, rfl, fun W h => ⟨h.c 18 rfl, h.c 19 rfl, h.c 20 rfl, h.c 21 rfl, h.c 22 rfl, h.c 23 rfl⟩⟩
 have HL4 := qh (show L.drop 4 = [] by rw [hL]; rfl)
 clear hL hs1 hs2 hX hY HO
 have HZO := qh hZo
 clear hZo
 replace B2 := qh (B2.out.kept KB.out)
 replace B4 := qh (B4.out.kept KB.out)
 replace KB := qh (K10.out.trans' KB.out)
 clear K10
 go_wp2_with fail
 go_loopg [11, 12, 13, 14, 15] 4 (fun gh v11 v12 v13 v14 v15 wr => ∃ (k : Nat) (m : DyD), k + gh = 4 ∧ v11 = .int .i64 (k : Int) ∧ qad m = true ∧ 0 ≤ m.num ∧ qd0 ⟨⟨z0, z1, z2⟩, ⟨z3, z4, z5⟩⟩ (L.drop k) m = F ∧ Bx wr q (LC0 m.neg m.n m.e) ∧ Bx wr g (LC4 a0 a1 a2 a3 a4 a5 x0 x1 x2 a3 a4 a5 a0 a1 a2 y0 y1 y2 x0 x1 x2 y0 y1 y2) ∧ Bx wr g3 (LC1 z0 z1 z2 z3 z4 z5) ∧ Kept w1 wr)
 case atStart => exact ⟨0, zD, by omega, rfl, rfl, Int.le_refl _, HF.out.symm, B5.out, B2.out, B4.out, KB.out⟩
 case round =>
  clear B2 B4 B5 KB HF
  obtain ⟨k, m, hkg, rfl, hm, hm0, hF, b5, b2, b4, hk⟩ := hrel
  have HM0 := qh hm0
  have HFF := qh hF
  have HMO := qh hm
  have B5 := qh b5
  have B2 := qh b2
  have B4 := qh b4
  have KR := qh hk
  have hqw := b5.lt
  clear hF hm hm0 b5 b2 b4 hk
  cases gk with
  | zero =>
   obtain rfl : k = 4 := by omega
   have HFN := qh (show F = some m by rw [← HFF.out, HL4.out]; rfl)
   have HE5 := qh (show qbb m qbB = false → E = 5 from fun h => by have h9 := HC3.out; simp at h9; exact h9 m HFN.out h)
   have HE0 := qh (show qbb m qbB = true → E = 0 from fun h => by have h9 := HC4.out; simp at h9; exact h9 m HFN.out h)
   have EN := qh (fun (x : Nat) W (hx : x < 18446744073709551616) => qiM m x W HMO.out hx)
   have NR := qh (fun W => qfN m W HMO.out)
   obtain ⟨sr, hsr⟩ := qmr (qmd HMO.out HM0.out)
   have SQ := qh (fun W => qlV (qaQ m) sr hsr W)
   generalize qaQ m = nr at *
   generalize qbb m = f at *
   obtain ⟨m0, m1, m2⟩ := m
   simp only at EN NR
   have EN0 : Hid (∀ W, Calls prog 83 #[.agg #[.bool m0, .string m1, .int .i64 m2], .int .u64 9218868437227405311] W fun en w' => en = .returned (.bool (f qbB)) ∧ Kept W w') := fun W => EN.out qbB W (by decide)
   clear HFN HC2 HC3 HC4 HFF HMO HM0 hsr CK HL4 B2 B4 HZO
   obtain ⟨c0, c1, c2⟩ := B5.out.c3
   cases hr : f qbB with
   | false =>
    have HE := qh (HE5.out hr)
    rw [hr] at EN0
    go_upto_region 21 with (go_at_call 83; (with_reducible refine (EN0.out _).mono ?_); rintro e w14 ⟨rfl, hk14⟩)
    have K15 := qh (KR.out.trans' hk14)
    clear hk14 c0 c1 c2 KR
    obtain ⟨re0, re1⟩ : (World.cell? _ ⟨b + 1, 0, none⟩ = some (.complex .f64 0 0)) ∧ (World.cell? _ ⟨b + 1, 1, none⟩ = some (.float .f64 0)) := ⟨(B1.out.kept K15.out).c 0 rfl, (B1.out.kept K15.out).c 1 rfl⟩
    obtain ⟨rf0, rf1⟩ : (World.frozen? _ ⟨b + 1, 0, none⟩ = false) ∧ (World.frozen? _ ⟨b + 1, 1, none⟩ = false) := ⟨(B1.out.kept K15.out).f 0, (B1.out.kept K15.out).f 1⟩
    go_wp2_with fail
    exact bodyPost_ret (v := .tuple #[.agg #[.complex .f64 0 0, .float .f64 0], .int .i64 5]) (by simp [results, results41, go_sem, re0, re1]) rfl (HPQ.out 5 0 0 0 _ HE.out.symm (by decide) (by decide) (by decide) (((K1.out.trans' K15.out).set (b := b + 1) (by have := HB.out; omega) 0 _).set (b := b + 1) (by have := HB.out; omega) 1 _))
   | true =>
    have HE := qh (HE0.out hr)
    rw [hr] at EN0
    go_upto_region 23 with (go_at_call 83; (with_reducible refine (EN0.out _).mono ?_); rintro e w14 ⟨rfl, hk14⟩; replace B5 := qh (B5.out.kept hk14); replace KR := qh (KR.out.trans' hk14); clear hk14)
    clear c0 c1 c2 EN0 HE0 HE5
    obtain ⟨c0, c1, c2⟩ := B5.out.c3
    go_upto_region 24 with (first
     | (go_at_call 85; (with_reducible refine (NR.out _).mono ?_); rintro e w15 ⟨rfl, hk15⟩; replace B5 := qh (B5.out.kept hk15); replace KR := qh (KR.out.trans' hk15); clear hk15 c0 c1 c2)
     | (go_at_call 84; (with_reducible refine (SQ.out _).mono ?_); rintro e w16 ⟨rfl, hw⟩; replace hw := hw.symm; subst hw))
    clear NR SQ
    obtain ⟨c0, c1, c2⟩ := B5.out.c3
    by_cases s1 : 8 < sr
    rotate_left
    ·have i1 : ¬ (8 : Int) < sr := by omega
     go_upto_region 26 with fail
     go_wp2_with fail
     go_loopg [17, 18, 20] (qbB - 0 - 1) (fun gh v17 v18 v20 wr => ∃ lo hi : Nat, v17 = .int .u64 (lo : Int) ∧ v18 = .int .u64 (hi : Int) ∧ lo + gh + 1 = hi ∧ hi < 9223372036854775808 ∧ Bx wr q (LC0 m0 m1 m2) ∧ Kept w1 wr)
     case atStart => exact ⟨0, qbB, by first | rfl | (congr 1; omega), by first | rfl | (congr 1; omega), by first | decide | omega, by first | decide | omega, B5.out, KR.out⟩
     case round =>
      clear B5 KR c0 c1 c2
      obtain ⟨lo, hi, rfl, rfl, hgap, hhi, b5, kr⟩ := hrel
      have B5 := qh b5
      have KR := qh kr
      clear b5 kr
      obtain ⟨D, hD⟩ : ∃ D : Nat, D = hi - lo := ⟨_, rfl⟩
      have hDI : IntKind.u64.wrap ((hi : Int) - lo) = (D : Int) := by rw [IntKind.wrap_u64]; omega
      have hDe : (hi : Int) - lo = (D : Int) := by omega
      have HD := qh hD
      cases gk with
      | zero =>
       have hD1 : D = 1 := by omega
       subst hD1
       have HG := qh hgap
       clear hgap hD
       obtain ⟨re0, re1⟩ : (World.cell? _ ⟨b + 1, 0, none⟩ = some (.complex .f64 0 0)) ∧ (World.cell? _ ⟨b + 1, 1, none⟩ = some (.float .f64 0)) := ⟨(B1.out.kept KR.out).c 0 rfl, (B1.out.kept KR.out).c 1 rfl⟩
       obtain ⟨rf0, rf1⟩ : (World.frozen? _ ⟨b + 1, 0, none⟩ = false) ∧ (World.frozen? _ ⟨b + 1, 1, none⟩ = false) := ⟨(B1.out.kept KR.out).f 0, (B1.out.kept KR.out).f 1⟩
       go_wp2_with fail
       exact bodyPost_ret (v := .tuple #[.agg #[.complex .f64 P Q, .float .f64 hi], .int .i64 0]) (by simp [results, results41, go_sem, re0, re1]) rfl (HPQ.out 0 P Q hi _ HE.out.symm hP hQ (by omega) (((K1.out.trans' KR.out).set (b := b + 1) (by have := HB.out; omega) 0 _).set (b := b + 1) (by have := HB.out; omega) 1 _))
      | succ gj =>
       obtain ⟨h, hh⟩ : ∃ h : Nat, h = D / 2 := ⟨_, rfl⟩
       have hhI : (D : Int) / 2 = (h : Int) := by omega
       have hD2 : (1 : Int) < D := by omega
       have hb : lo + h < 9223372036854775808 := by omega
       have HH := qh (show 1 ≤ h ∧ h < D ∧ lo + D = hi ∧ D = gj + 2 by omega)
       have ENM : Hid (∀ W, Calls prog 83 #[.agg #[.bool m0, .string m1, .int .i64 m2], .int .u64 ((lo : Int) + h)] W fun en w' => en = .returned (.bool (f (lo + h))) ∧ Kept W w') := fun W => EN.out (lo + h) W (by omega)
       clear hh hgap hD
       obtain ⟨c0, c1, c2⟩ := B5.out.c3
       cases hf : f (lo + h) with
       | true =>
        rw [hf] at ENM
        go_wp2_with (go_at_call 83; (with_reducible refine (ENM.out _).mono ?_); rintro e w18 ⟨rfl, hk18⟩; replace B5 := qh (B5.out.kept hk18); replace KR := qh (KR.out.trans' hk18); clear hk18)
        go_roundg (h - 1)
        case measure => have := HH.out; omega
        case rel => exact ⟨lo, lo + h, rfl, by first | rfl | (congr 1; omega), by have := HH.out; omega, by omega, B5.out, KR.out⟩
       | false =>
        rw [hf] at ENM
        go_wp2_with (go_at_call 83; (with_reducible refine (ENM.out _).mono ?_); rintro e w18 ⟨rfl, hk18⟩; replace B5 := qh (B5.out.kept hk18); replace KR := qh (KR.out.trans' hk18); clear hk18)
        go_roundg (D - h - 1)
        case measure => have := HH.out; omega
        case rel => exact ⟨lo + h, hi, by first | rfl | (congr 1; omega), rfl, by have := HH.out; omega, by omega, B5.out, KR.out⟩
    have i1 : (8 : Int) < sr := by omega
    by_cases s2 : sr < 9218868437227405303
    rotate_left
    ·have i2 : ¬ (sr : Int) < 9218868437227405303 := by omega
     go_upto_region 26 with fail
     go_wp2_with fail
     go_loopg [17, 18, 20] (qbB - 0 - 1) (fun gh v17 v18 v20 wr => ∃ lo hi : Nat, v17 = .int .u64 (lo : Int) ∧ v18 = .int .u64 (hi : Int) ∧ lo + gh + 1 = hi ∧ hi < 9223372036854775808 ∧ Bx wr q (LC0 m0 m1 m2) ∧ Kept w1 wr)
     case atStart => exact ⟨0, qbB, by first | rfl | (congr 1; omega), by first | rfl | (congr 1; omega), by first | decide | omega, by first | decide | omega, B5.out, KR.out⟩
     case round =>
      clear B5 KR c0 c1 c2
      obtain ⟨lo, hi, rfl, rfl, hgap, hhi, b5, kr⟩ := hrel
      have B5 := qh b5
      have KR := qh kr
      clear b5 kr
      obtain ⟨D, hD⟩ : ∃ D : Nat, D = hi - lo := ⟨_, rfl⟩
      have hDI : IntKind.u64.wrap ((hi : Int) - lo) = (D : Int) := by rw [IntKind.wrap_u64]; omega
      have hDe : (hi : Int) - lo = (D : Int) := by omega
      have HD := qh hD
      cases gk with
      | zero =>
       have hD1 : D = 1 := by omega
       subst hD1
       have HG := qh hgap
       clear hgap hD
       obtain ⟨re0, re1⟩ : (World.cell? _ ⟨b + 1, 0, none⟩ = some (.complex .f64 0 0)) ∧ (World.cell? _ ⟨b + 1, 1, none⟩ = some (.float .f64 0)) := ⟨(B1.out.kept KR.out).c 0 rfl, (B1.out.kept KR.out).c 1 rfl⟩
       obtain ⟨rf0, rf1⟩ : (World.frozen? _ ⟨b + 1, 0, none⟩ = false) ∧ (World.frozen? _ ⟨b + 1, 1, none⟩ = false) := ⟨(B1.out.kept KR.out).f 0, (B1.out.kept KR.out).f 1⟩
       go_wp2_with fail
       exact bodyPost_ret (v := .tuple #[.agg #[.complex .f64 P Q, .float .f64 hi], .int .i64 0]) (by simp [results, results41, go_sem, re0, re1]) rfl (HPQ.out 0 P Q hi _ HE.out.symm hP hQ (by omega) (((K1.out.trans' KR.out).set (b := b + 1) (by have := HB.out; omega) 0 _).set (b := b + 1) (by have := HB.out; omega) 1 _))
      | succ gj =>
       obtain ⟨h, hh⟩ : ∃ h : Nat, h = D / 2 := ⟨_, rfl⟩
       have hhI : (D : Int) / 2 = (h : Int) := by omega
       have hD2 : (1 : Int) < D := by omega
       have hb : lo + h < 9223372036854775808 := by omega
       have HH := qh (show 1 ≤ h ∧ h < D ∧ lo + D = hi ∧ D = gj + 2 by omega)
       have ENM : Hid (∀ W, Calls prog 83 #[.agg #[.bool m0, .string m1, .int .i64 m2], .int .u64 ((lo : Int) + h)] W fun en w' => en = .returned (.bool (f (lo + h))) ∧ Kept W w') := fun W => EN.out (lo + h) W (by omega)
       clear hh hgap hD
       obtain ⟨c0, c1, c2⟩ := B5.out.c3
       cases hf : f (lo + h) with
       | true =>
        rw [hf] at ENM
        go_wp2_with (go_at_call 83; (with_reducible refine (ENM.out _).mono ?_); rintro e w18 ⟨rfl, hk18⟩; replace B5 := qh (B5.out.kept hk18); replace KR := qh (KR.out.trans' hk18); clear hk18)
        go_roundg (h - 1)
        case measure => have := HH.out; omega
        case rel => exact ⟨lo, lo + h, rfl, by first | rfl | (congr 1; omega), by have := HH.out; omega, by omega, B5.out, KR.out⟩
       | false =>
        rw [hf] at ENM
        go_wp2_with (go_at_call 83; (with_reducible refine (ENM.out _).mono ?_); rintro e w18 ⟨rfl, hk18⟩; replace B5 := qh (B5.out.kept hk18); replace KR := qh (KR.out.trans' hk18); clear hk18)
        go_roundg (D - h - 1)
        case measure => have := HH.out; omega
        case rel => exact ⟨lo + h, hi, by first | rfl | (congr 1; omega), rfl, by have := HH.out; omega, by omega, B5.out, KR.out⟩
    have i2 : (sr : Int) < 9218868437227405303 := by omega
    have EN1 : Hid (∀ W, Calls prog 83 #[.agg #[.bool m0, .string m1, .int .i64 m2], .int .u64 ((sr : Int) - 8)] W fun en w' => en = .returned (.bool (f (sr - 8))) ∧ Kept W w') := fun W => by
     have := EN.out (sr - 8) W (by omega)
     rwa [show ((sr - 8 : Nat) : Int) = (sr : Int) - 8 by omega] at this
    have EN2 : Hid (∀ W, Calls prog 83 #[.agg #[.bool m0, .string m1, .int .i64 m2], .int .u64 ((sr : Int) + 8)] W fun en w' => en = .returned (.bool (f (sr + 8))) ∧ Kept W w') := fun W => EN.out (sr + 8) W (by omega)
    cases h1 : f (sr - 8) with
    | true =>
     rw [h1] at EN1
     go_wp2_with fail
     (with_reducible refine (EN1.out _).mono ?_)
     rintro e w17 ⟨rfl, hk17⟩
     replace B5 := qh (B5.out.kept hk17)
     replace KR := qh (KR.out.trans' hk17)
     clear hk17 c0 c1 c2 EN1
     obtain ⟨c0, c1, c2⟩ := B5.out.c3
     go_upto_region 26 with fail
     go_wp2_with fail
     go_loopg [17, 18, 20] (qbB - 0 - 1) (fun gh v17 v18 v20 wr => ∃ lo hi : Nat, v17 = .int .u64 (lo : Int) ∧ v18 = .int .u64 (hi : Int) ∧ lo + gh + 1 = hi ∧ hi < 9223372036854775808 ∧ Bx wr q (LC0 m0 m1 m2) ∧ Kept w1 wr)
     case atStart => exact ⟨0, qbB, by first | rfl | (congr 1; omega), by first | rfl | (congr 1; omega), by first | decide | omega, by first | decide | omega, B5.out, KR.out⟩
     case round =>
      clear B5 KR c0 c1 c2
      obtain ⟨lo, hi, rfl, rfl, hgap, hhi, b5, kr⟩ := hrel
      have B5 := qh b5
      have KR := qh kr
      clear b5 kr
      obtain ⟨D, hD⟩ : ∃ D : Nat, D = hi - lo := ⟨_, rfl⟩
      have hDI : IntKind.u64.wrap ((hi : Int) - lo) = (D : Int) := by rw [IntKind.wrap_u64]; omega
      have hDe : (hi : Int) - lo = (D : Int) := by omega
      have HD := qh hD
      cases gk with
      | zero =>
       have hD1 : D = 1 := by omega
       subst hD1
       have HG := qh hgap
       clear hgap hD
       obtain ⟨re0, re1⟩ : (World.cell? _ ⟨b + 1, 0, none⟩ = some (.complex .f64 0 0)) ∧ (World.cell? _ ⟨b + 1, 1, none⟩ = some (.float .f64 0)) := ⟨(B1.out.kept KR.out).c 0 rfl, (B1.out.kept KR.out).c 1 rfl⟩
       obtain ⟨rf0, rf1⟩ : (World.frozen? _ ⟨b + 1, 0, none⟩ = false) ∧ (World.frozen? _ ⟨b + 1, 1, none⟩ = false) := ⟨(B1.out.kept KR.out).f 0, (B1.out.kept KR.out).f 1⟩
       go_wp2_with fail
       exact bodyPost_ret (v := .tuple #[.agg #[.complex .f64 P Q, .float .f64 hi], .int .i64 0]) (by simp [results, results41, go_sem, re0, re1]) rfl (HPQ.out 0 P Q hi _ HE.out.symm hP hQ (by omega) (((K1.out.trans' KR.out).set (b := b + 1) (by have := HB.out; omega) 0 _).set (b := b + 1) (by have := HB.out; omega) 1 _))
      | succ gj =>
       obtain ⟨h, hh⟩ : ∃ h : Nat, h = D / 2 := ⟨_, rfl⟩
       have hhI : (D : Int) / 2 = (h : Int) := by omega
       have hD2 : (1 : Int) < D := by omega
       have hb : lo + h < 9223372036854775808 := by omega
       have HH := qh (show 1 ≤ h ∧ h < D ∧ lo + D = hi ∧ D = gj + 2 by omega)
       have ENM : Hid (∀ W, Calls prog 83 #[.agg #[.bool m0, .string m1, .int .i64 m2], .int .u64 ((lo : Int) + h)] W fun en w' => en = .returned (.bool (f (lo + h))) ∧ Kept W w') := fun W => EN.out (lo + h) W (by omega)
       clear hh hgap hD
       obtain ⟨c0, c1, c2⟩ := B5.out.c3
       cases hf : f (lo + h) with
       | true =>
        rw [hf] at ENM
        go_wp2_with (go_at_call 83; (with_reducible refine (ENM.out _).mono ?_); rintro e w18 ⟨rfl, hk18⟩; replace B5 := qh (B5.out.kept hk18); replace KR := qh (KR.out.trans' hk18); clear hk18)
        go_roundg (h - 1)
        case measure => have := HH.out; omega
        case rel => exact ⟨lo, lo + h, rfl, by first | rfl | (congr 1; omega), by have := HH.out; omega, by omega, B5.out, KR.out⟩
       | false =>
        rw [hf] at ENM
        go_wp2_with (go_at_call 83; (with_reducible refine (ENM.out _).mono ?_); rintro e w18 ⟨rfl, hk18⟩; replace B5 := qh (B5.out.kept hk18); replace KR := qh (KR.out.trans' hk18); clear hk18)
        go_roundg (D - h - 1)
        case measure => have := HH.out; omega
        case rel => exact ⟨lo + h, hi, by first | rfl | (congr 1; omega), rfl, by have := HH.out; omega, by omega, B5.out, KR.out⟩
    | false =>
     rw [h1] at EN1
     go_wp2_with fail
     (with_reducible refine (EN1.out _).mono ?_)
     rintro e w17 ⟨rfl, hk17⟩
     replace B5 := qh (B5.out.kept hk17)
     replace KR := qh (KR.out.trans' hk17)
     clear hk17 c0 c1 c2 EN1
     obtain ⟨c0, c1, c2⟩ := B5.out.c3
     cases h2 : f (sr + 8) with
     | false =>
      rw [h2] at EN2
      go_wp2_with fail
      (with_reducible refine (EN2.out _).mono ?_)
      rintro e w17 ⟨rfl, hk17⟩
      replace B5 := qh (B5.out.kept hk17)
      replace KR := qh (KR.out.trans' hk17)
      clear hk17 c0 c1 c2 EN2
      obtain ⟨c0, c1, c2⟩ := B5.out.c3
      go_upto_region 26 with fail
      go_wp2_with fail
      go_loopg [17, 18, 20] (qbB - 0 - 1) (fun gh v17 v18 v20 wr => ∃ lo hi : Nat, v17 = .int .u64 (lo : Int) ∧ v18 = .int .u64 (hi : Int) ∧ lo + gh + 1 = hi ∧ hi < 9223372036854775808 ∧ Bx wr q (LC0 m0 m1 m2) ∧ Kept w1 wr)
      case atStart => exact ⟨0, qbB, by first | rfl | (congr 1; omega), by first | rfl | (congr 1; omega), by first | decide | omega, by first | decide | omega, B5.out, KR.out⟩
      case round =>
       clear B5 KR c0 c1 c2
       obtain ⟨lo, hi, rfl, rfl, hgap, hhi, b5, kr⟩ := hrel
       have B5 := qh b5
       have KR := qh kr
       clear b5 kr
       obtain ⟨D, hD⟩ : ∃ D : Nat, D = hi - lo := ⟨_, rfl⟩
       have hDI : IntKind.u64.wrap ((hi : Int) - lo) = (D : Int) := by rw [IntKind.wrap_u64]; omega
       have hDe : (hi : Int) - lo = (D : Int) := by omega
       have HD := qh hD
       cases gk with
       | zero =>
        have hD1 : D = 1 := by omega
        subst hD1
        have HG := qh hgap
        clear hgap hD
        obtain ⟨re0, re1⟩ : (World.cell? _ ⟨b + 1, 0, none⟩ = some (.complex .f64 0 0)) ∧ (World.cell? _ ⟨b + 1, 1, none⟩ = some (.float .f64 0)) := ⟨(B1.out.kept KR.out).c 0 rfl, (B1.out.kept KR.out).c 1 rfl⟩
        obtain ⟨rf0, rf1⟩ : (World.frozen? _ ⟨b + 1, 0, none⟩ = false) ∧ (World.frozen? _ ⟨b + 1, 1, none⟩ = false) := ⟨(B1.out.kept KR.out).f 0, (B1.out.kept KR.out).f 1⟩
        go_wp2_with fail
        exact bodyPost_ret (v := .tuple #[.agg #[.complex .f64 P Q, .float .f64 hi], .int .i64 0]) (by simp [results, results41, go_sem, re0, re1]) rfl (HPQ.out 0 P Q hi _ HE.out.symm hP hQ (by omega) (((K1.out.trans' KR.out).set (b := b + 1) (by have := HB.out; omega) 0 _).set (b := b + 1) (by have := HB.out; omega) 1 _))
       | succ gj =>
        obtain ⟨h, hh⟩ : ∃ h : Nat, h = D / 2 := ⟨_, rfl⟩
        have hhI : (D : Int) / 2 = (h : Int) := by omega
        have hD2 : (1 : Int) < D := by omega
        have hb : lo + h < 9223372036854775808 := by omega
        have HH := qh (show 1 ≤ h ∧ h < D ∧ lo + D = hi ∧ D = gj + 2 by omega)
        have ENM : Hid (∀ W, Calls prog 83 #[.agg #[.bool m0, .string m1, .int .i64 m2], .int .u64 ((lo : Int) + h)] W fun en w' => en = .returned (.bool (f (lo + h))) ∧ Kept W w') := fun W => EN.out (lo + h) W (by omega)
        clear hh hgap hD
        obtain ⟨c0, c1, c2⟩ := B5.out.c3
        cases hf : f (lo + h) with
        | true =>
         rw [hf] at ENM
         go_wp2_with (go_at_call 83; (with_reducible refine (ENM.out _).mono ?_); rintro e w18 ⟨rfl, hk18⟩; replace B5 := qh (B5.out.kept hk18); replace KR := qh (KR.out.trans' hk18); clear hk18)
         go_roundg (h - 1)
         case measure => have := HH.out; omega
         case rel => exact ⟨lo, lo + h, rfl, by first | rfl | (congr 1; omega), by have := HH.out; omega, by omega, B5.out, KR.out⟩
        | false =>
         rw [hf] at ENM
         go_wp2_with (go_at_call 83; (with_reducible refine (ENM.out _).mono ?_); rintro e w18 ⟨rfl, hk18⟩; replace B5 := qh (B5.out.kept hk18); replace KR := qh (KR.out.trans' hk18); clear hk18)
         go_roundg (D - h - 1)
         case measure => have := HH.out; omega
         case rel => exact ⟨lo + h, hi, by first | rfl | (congr 1; omega), rfl, by have := HH.out; omega, by omega, B5.out, KR.out⟩
     | true =>
      rw [h2] at EN2
      go_wp2_with fail
      (with_reducible refine (EN2.out _).mono ?_)
      rintro e w17 ⟨rfl, hk17⟩
      replace B5 := qh (B5.out.kept hk17)
      replace KR := qh (KR.out.trans' hk17)
      clear hk17 c0 c1 c2 EN2
      obtain ⟨c0, c1, c2⟩ := B5.out.c3
      go_upto_region 26 with fail
      go_wp2_with fail
      go_loopg [17, 18, 20] ((sr + 8) - (sr - 8) - 1) (fun gh v17 v18 v20 wr => ∃ lo hi : Nat, v17 = .int .u64 (lo : Int) ∧ v18 = .int .u64 (hi : Int) ∧ lo + gh + 1 = hi ∧ hi < 9223372036854775808 ∧ Bx wr q (LC0 m0 m1 m2) ∧ Kept w1 wr)
      case atStart => exact ⟨(sr - 8), (sr + 8), by first | rfl | (congr 1; omega), by first | rfl | (congr 1; omega), by first | decide | omega, by first | decide | omega, B5.out, KR.out⟩
      case round =>
       clear B5 KR c0 c1 c2
       obtain ⟨lo, hi, rfl, rfl, hgap, hhi, b5, kr⟩ := hrel
       have B5 := qh b5
       have KR := qh kr
       clear b5 kr
       obtain ⟨D, hD⟩ : ∃ D : Nat, D = hi - lo := ⟨_, rfl⟩
       have hDI : IntKind.u64.wrap ((hi : Int) - lo) = (D : Int) := by rw [IntKind.wrap_u64]; omega
       have hDe : (hi : Int) - lo = (D : Int) := by omega
       have HD := qh hD
       cases gk with
       | zero =>
        have hD1 : D = 1 := by omega
        subst hD1
        have HG := qh hgap
        clear hgap hD
        obtain ⟨re0, re1⟩ : (World.cell? _ ⟨b + 1, 0, none⟩ = some (.complex .f64 0 0)) ∧ (World.cell? _ ⟨b + 1, 1, none⟩ = some (.float .f64 0)) := ⟨(B1.out.kept KR.out).c 0 rfl, (B1.out.kept KR.out).c 1 rfl⟩
        obtain ⟨rf0, rf1⟩ : (World.frozen? _ ⟨b + 1, 0, none⟩ = false) ∧ (World.frozen? _ ⟨b + 1, 1, none⟩ = false) := ⟨(B1.out.kept KR.out).f 0, (B1.out.kept KR.out).f 1⟩
        go_wp2_with fail
        exact bodyPost_ret (v := .tuple #[.agg #[.complex .f64 P Q, .float .f64 hi], .int .i64 0]) (by simp [results, results41, go_sem, re0, re1]) rfl (HPQ.out 0 P Q hi _ HE.out.symm hP hQ (by omega) (((K1.out.trans' KR.out).set (b := b + 1) (by have := HB.out; omega) 0 _).set (b := b + 1) (by have := HB.out; omega) 1 _))
       | succ gj =>
        obtain ⟨h, hh⟩ : ∃ h : Nat, h = D / 2 := ⟨_, rfl⟩
        have hhI : (D : Int) / 2 = (h : Int) := by omega
        have hD2 : (1 : Int) < D := by omega
        have hb : lo + h < 9223372036854775808 := by omega
        have HH := qh (show 1 ≤ h ∧ h < D ∧ lo + D = hi ∧ D = gj + 2 by omega)
        have ENM : Hid (∀ W, Calls prog 83 #[.agg #[.bool m0, .string m1, .int .i64 m2], .int .u64 ((lo : Int) + h)] W fun en w' => en = .returned (.bool (f (lo + h))) ∧ Kept W w') := fun W => EN.out (lo + h) W (by omega)
        clear hh hgap hD
        obtain ⟨c0, c1, c2⟩ := B5.out.c3
        cases hf : f (lo + h) with
        | true =>
         rw [hf] at ENM
         go_wp2_with (go_at_call 83; (with_reducible refine (ENM.out _).mono ?_); rintro e w18 ⟨rfl, hk18⟩; replace B5 := qh (B5.out.kept hk18); replace KR := qh (KR.out.trans' hk18); clear hk18)
         go_roundg (h - 1)
         case measure => have := HH.out; omega
         case rel => exact ⟨lo, lo + h, rfl, by first | rfl | (congr 1; omega), by have := HH.out; omega, by omega, B5.out, KR.out⟩
        | false =>
         rw [hf] at ENM
         go_wp2_with (go_at_call 83; (with_reducible refine (ENM.out _).mono ?_); rintro e w18 ⟨rfl, hk18⟩; replace B5 := qh (B5.out.kept hk18); replace KR := qh (KR.out.trans' hk18); clear hk18)
         go_roundg (D - h - 1)
         case measure => have := HH.out; omega
         case rel => exact ⟨lo + h, hi, by first | rfl | (congr 1; omega), rfl, by have := HH.out; omega, by omega, B5.out, KR.out⟩
  | succ gh =>
   obtain ⟨G, hG, hdr, hcell⟩ := CK.out k (by omega)
   have SUB := qh (fun W => qhs G ⟨⟨z0, z1, z2⟩, ⟨z3, z4, z5⟩⟩ W hG HZO.out)
   have hS1 := qiw hG HZO.out
   have HS := qgW G ⟨⟨z0, z1, z2⟩, ⟨z3, z4, z5⟩⟩
   have HFE : qd0 ⟨⟨z0, z1, z2⟩, ⟨z3, z4, z5⟩⟩ (L.drop k) m = F := HFF.out
   rw [hdr] at HFE
   unfold qd0 at HFE
   generalize qej G ⟨⟨z0, z1, z2⟩, ⟨z3, z4, z5⟩⟩ = S at *
   have NRM := qh (fun W => qhh S.1 W hS1)
   have hN1 := qgY S.1
   have hN0 := qh (qic S.1)
   have HN : (qbX S.1).2 = 0 ∨ qbX S.1 = (zD, 4) := qhg _ _
   generalize qbX S.1 = N at *
   have CMP := qh (fun W => qcZ m N.1 W HMO.out hN1)
   rw [qhR m N.1] at HFE
   generalize qbx m N.1 = cc at *
   have HFEE := qh HFE
   have HNO := qh hN1
   obtain ⟨⟨t0, t1, t2⟩, ⟨t3, t4, t5⟩⟩ := G
   obtain ⟨⟨⟨s0, s1, s2⟩, ⟨s3, s4, s5⟩⟩, s6⟩ := S
   obtain ⟨⟨n0, n1, n2⟩, n3⟩ := N
   obtain ⟨m0, m1, m2⟩ := m
   simp only at SUB NRM CMP HFEE HNO HMO HM0 hN0 HS HN hcell
   have hs6 : s6 = 0 ∨ s6 = 4 := HS.imp id (fun h => (Prod.mk.inj h).2)
   have hn3 : n3 = 0 ∨ n3 = 4 := HN.imp id (fun h => (Prod.mk.inj h).2)
   have SK : Hid (∀ W, Kept wr W → (W.cell? ⟨g, k * 6, none⟩ = some (.bool t0) ∧ W.cell? ⟨g, k * 6 + 1, none⟩ = some (.string t1) ∧ W.cell? ⟨g, k * 6 + 2, none⟩ = some (.int .i64 t2) ∧ W.cell? ⟨g, k * 6 + 3, none⟩ = some (.bool t3) ∧ W.cell? ⟨g, k * 6 + 4, none⟩ = some (.string t4) ∧ W.cell? ⟨g, k * 6 + 5, none⟩ = some (.int .i64 t5)) ∧ W.cell? ⟨g3, 0, none⟩ = some (.bool z0) ∧ W.cell? ⟨g3, 1, none⟩ = some (.string z1) ∧ W.cell? ⟨g3, 2, none⟩ = some (.int .i64 z2) ∧ W.cell? ⟨g3, 3, none⟩ = some (.bool z3) ∧ W.cell? ⟨g3, 4, none⟩ = some (.string z4) ∧ W.cell? ⟨g3, 5, none⟩ = some (.int .i64 z5)) := fun W h => ⟨hcell W (B2.out.kept h), (B4.out.kept h).c6⟩
   clear HFE HS HN hS1 hN1 hcell hdr hG HFF
   have hkI : (k : Int) < 4 := by omega
   go_wp2_with fail
   go_cut [12, 13] from 52 to 59 (fun v12 v13 wy => ∃ gs : Nat, v12 = .pointer (some ⟨gs, 0, none⟩) ∧ v13 = .int .i64 s6 ∧ Bx wy gs (LC1 s0 s1 s2 s3 s4 s5) ∧ Kept wr wy)
   case first =>
    have hS0 := SK.out _ (Below.refl _ wr).drew
    have KR : Hid (∀ o, ((World.drew (World.alloc wr o)).cell? ⟨g, k * 6, none⟩ = some (.bool t0) ∧ (World.drew (World.alloc wr o)).cell? ⟨g, k * 6 + 1, none⟩ = some (.string t1) ∧ (World.drew (World.alloc wr o)).cell? ⟨g, k * 6 + 2, none⟩ = some (.int .i64 t2) ∧ (World.drew (World.alloc wr o)).cell? ⟨g, k * 6 + 3, none⟩ = some (.bool t3) ∧ (World.drew (World.alloc wr o)).cell? ⟨g, k * 6 + 4, none⟩ = some (.string t4) ∧ (World.drew (World.alloc wr o)).cell? ⟨g, k * 6 + 5, none⟩ = some (.int .i64 t5)) ∧ (World.drew (World.alloc wr o)).cell? ⟨g3, 0, none⟩ = some (.bool z0) ∧ (World.drew (World.alloc wr o)).cell? ⟨g3, 1, none⟩ = some (.string z1) ∧ (World.drew (World.alloc wr o)).cell? ⟨g3, 2, none⟩ = some (.int .i64 z2) ∧ (World.drew (World.alloc wr o)).cell? ⟨g3, 3, none⟩ = some (.bool z3) ∧ (World.drew (World.alloc wr o)).cell? ⟨g3, 4, none⟩ = some (.string z4) ∧ (World.drew (World.alloc wr o)).cell? ⟨g3, 5, none⟩ = some (.int .i64 z5)) := qh (fun o => SK.out _ ((Kept.new (Below.refl _ wr) o).drew'))
    refine qab (fun W => (W.cell? ⟨g, k * 6, none⟩ = some (.bool t0) ∧ W.cell? ⟨g, k * 6 + 1, none⟩ = some (.string t1) ∧ W.cell? ⟨g, k * 6 + 2, none⟩ = some (.int .i64 t2) ∧ W.cell? ⟨g, k * 6 + 3, none⟩ = some (.bool t3) ∧ W.cell? ⟨g, k * 6 + 4, none⟩ = some (.string t4) ∧ W.cell? ⟨g, k * 6 + 5, none⟩ = some (.int .i64 t5)) ∧ W.cell? ⟨g3, 0, none⟩ = some (.bool z0) ∧ W.cell? ⟨g3, 1, none⟩ = some (.string z1) ∧ W.cell? ⟨g3, 2, none⟩ = some (.int .i64 z2) ∧ W.cell? ⟨g3, 3, none⟩ = some (.bool z3) ∧ W.cell? ⟨g3, 4, none⟩ = some (.string z4) ∧ W.cell? ⟨g3, 5, none⟩ = some (.int .i64 z5)) [10] (by kernel_rfl) ?_ (fun hHeld => ?_)
    ·first | with_reducible assumption | with_reducible exact KA.out _ | with_reducible exact KR.out _ | with_reducible exact KC.out _ _ _ _ _ _
    refine wS 0 53 ?_
    refine wS 1 54 ?_
    refine wS 2 55 ?_
    refine wS 3 56 ?_
    refine tS 4 8 (fun K hK => ?_) (fun K hK => ?_)
    ·skip
     go_simp
     (refine (SUB.out _).mono ?_; rintro e w13 ⟨rfl, hk13⟩; have K3 := qh (show Kept wr w13 from (Below.refl _ wr).drew.trans (hk13.mono (Nat.le_refl _))); have hS3 := SK.out _ K3.out; have KA : Hid (∀ o, ((World.alloc w13 o).cell? ⟨g, k * 6, none⟩ = some (.bool t0) ∧ (World.alloc w13 o).cell? ⟨g, k * 6 + 1, none⟩ = some (.string t1) ∧ (World.alloc w13 o).cell? ⟨g, k * 6 + 2, none⟩ = some (.int .i64 t2) ∧ (World.alloc w13 o).cell? ⟨g, k * 6 + 3, none⟩ = some (.bool t3) ∧ (World.alloc w13 o).cell? ⟨g, k * 6 + 4, none⟩ = some (.string t4) ∧ (World.alloc w13 o).cell? ⟨g, k * 6 + 5, none⟩ = some (.int .i64 t5)) ∧ (World.alloc w13 o).cell? ⟨g3, 0, none⟩ = some (.bool z0) ∧ (World.alloc w13 o).cell? ⟨g3, 1, none⟩ = some (.string z1) ∧ (World.alloc w13 o).cell? ⟨g3, 2, none⟩ = some (.int .i64 z2) ∧ (World.alloc w13 o).cell? ⟨g3, 3, none⟩ = some (.bool z3) ∧ (World.alloc w13 o).cell? ⟨g3, 4, none⟩ = some (.string z4) ∧ (World.alloc w13 o).cell? ⟨g3, 5, none⟩ = some (.int .i64 z5)) := qh (fun o => SK.out _ (Kept.new K3.out o)); clear hk13)
     refine hK.out _ _ ?_ (fun hHeld => ?_)
     ·first | with_reducible assumption | with_reducible exact KA.out _ | with_reducible exact KR.out _ | with_reducible exact KC.out _ _ _ _ _ _
     clear hK K
     try simp only [Act.put, tdy]
     refine wS 5 52 ?_
     refine wS 6 58 ?_
     refine wS 7 59 ?_
     refine oS 8 fun K hK => ?_
     go_simp
     refine hK.out _ _ ?_ (fun hHeld => ?_)
     ·first | with_reducible assumption | with_reducible exact KA.out _ | with_reducible exact KR.out _ | with_reducible exact KC.out _ _ _ _ _ _
     clear hK K
     try simp only [Act.put, tdy]
     refine oS 9 fun K hK => ?_
     go_simp
     refine hK.out _ _ ?_ (fun hHeld => ?_)
     ·first | with_reducible assumption | with_reducible exact KA.out _ | with_reducible exact KR.out _ | with_reducible exact KC.out _ _ _ _ _ _
     clear hK K
     try simp only [Act.put, tdy]
     refine eS 10 fun K hK => ?_
     go_simp
     refine hK.out _ _ ?_
     clear hK K
     try simp only [Act.put, tdy]
     refine dS ?_ _
     go_wp2_with fail
     go_meet
     exact ⟨w13.heap.size, rfl, rfl, Bx.new w13 (LC1 s0 s1 s2 s3 s4 s5) 28 w13.heap.size rfl, Kept.new K3.out _⟩
    ·skip
     go_simp
     refine hK.out _ _ ?_ (fun hHeld => ?_)
     ·first | with_reducible assumption | with_reducible exact KA.out _ | with_reducible exact KR.out _ | with_reducible exact KC.out _ _ _ _ _ _
     clear hK K
     try simp only [Act.put, tdy]
     refine oS 4 fun K hK => ?_
     go_simp
     (refine (SUB.out _).mono ?_; rintro e w13 ⟨rfl, hk13⟩; have K3 := qh (show Kept wr w13 from ((Kept.new (Below.refl _ wr) (.cells ZL0.toArray 28)).drew').trans' hk13); have hS3 := SK.out _ K3.out; have KC : Hid (∀ v0 v1 v2 v3 v4 v5, (((((((w13.setCell ⟨wr.heap.size, 0, none⟩ v0).setCell ⟨wr.heap.size, 1, none⟩ v1).setCell ⟨wr.heap.size, 2, none⟩ v2).setCell ⟨wr.heap.size, 3, none⟩ v3).setCell ⟨wr.heap.size, 4, none⟩ v4).setCell ⟨wr.heap.size, 5, none⟩ v5).cell? ⟨g, k * 6, none⟩ = some (.bool t0) ∧ ((((((w13.setCell ⟨wr.heap.size, 0, none⟩ v0).setCell ⟨wr.heap.size, 1, none⟩ v1).setCell ⟨wr.heap.size, 2, none⟩ v2).setCell ⟨wr.heap.size, 3, none⟩ v3).setCell ⟨wr.heap.size, 4, none⟩ v4).setCell ⟨wr.heap.size, 5, none⟩ v5).cell? ⟨g, k * 6 + 1, none⟩ = some (.string t1) ∧ ((((((w13.setCell ⟨wr.heap.size, 0, none⟩ v0).setCell ⟨wr.heap.size, 1, none⟩ v1).setCell ⟨wr.heap.size, 2, none⟩ v2).setCell ⟨wr.heap.size, 3, none⟩ v3).setCell ⟨wr.heap.size, 4, none⟩ v4).setCell ⟨wr.heap.size, 5, none⟩ v5).cell? ⟨g, k * 6 + 2, none⟩ = some (.int .i64 t2) ∧ ((((((w13.setCell ⟨wr.heap.size, 0, none⟩ v0).setCell ⟨wr.heap.size, 1, none⟩ v1).setCell ⟨wr.heap.size, 2, none⟩ v2).setCell ⟨wr.heap.size, 3, none⟩ v3).setCell ⟨wr.heap.size, 4, none⟩ v4).setCell ⟨wr.heap.size, 5, none⟩ v5).cell? ⟨g, k * 6 + 3, none⟩ = some (.bool t3) ∧ ((((((w13.setCell ⟨wr.heap.size, 0, none⟩ v0).setCell ⟨wr.heap.size, 1, none⟩ v1).setCell ⟨wr.heap.size, 2, none⟩ v2).setCell ⟨wr.heap.size, 3, none⟩ v3).setCell ⟨wr.heap.size, 4, none⟩ v4).setCell ⟨wr.heap.size, 5, none⟩ v5).cell? ⟨g, k * 6 + 4, none⟩ = some (.string t4) ∧ ((((((w13.setCell ⟨wr.heap.size, 0, none⟩ v0).setCell ⟨wr.heap.size, 1, none⟩ v1).setCell ⟨wr.heap.size, 2, none⟩ v2).setCell ⟨wr.heap.size, 3, none⟩ v3).setCell ⟨wr.heap.size, 4, none⟩ v4).setCell ⟨wr.heap.size, 5, none⟩ v5).cell? ⟨g, k * 6 + 5, none⟩ = some (.int .i64 t5)) ∧ ((((((w13.setCell ⟨wr.heap.size, 0, none⟩ v0).setCell ⟨wr.heap.size, 1, none⟩ v1).setCell ⟨wr.heap.size, 2, none⟩ v2).setCell ⟨wr.heap.size, 3, none⟩ v3).setCell ⟨wr.heap.size, 4, none⟩ v4).setCell ⟨wr.heap.size, 5, none⟩ v5).cell? ⟨g3, 0, none⟩ = some (.bool z0) ∧ ((((((w13.setCell ⟨wr.heap.size, 0, none⟩ v0).setCell ⟨wr.heap.size, 1, none⟩ v1).setCell ⟨wr.heap.size, 2, none⟩ v2).setCell ⟨wr.heap.size, 3, none⟩ v3).setCell ⟨wr.heap.size, 4, none⟩ v4).setCell ⟨wr.heap.size, 5, none⟩ v5).cell? ⟨g3, 1, none⟩ = some (.string z1) ∧ ((((((w13.setCell ⟨wr.heap.size, 0, none⟩ v0).setCell ⟨wr.heap.size, 1, none⟩ v1).setCell ⟨wr.heap.size, 2, none⟩ v2).setCell ⟨wr.heap.size, 3, none⟩ v3).setCell ⟨wr.heap.size, 4, none⟩ v4).setCell ⟨wr.heap.size, 5, none⟩ v5).cell? ⟨g3, 2, none⟩ = some (.int .i64 z2) ∧ ((((((w13.setCell ⟨wr.heap.size, 0, none⟩ v0).setCell ⟨wr.heap.size, 1, none⟩ v1).setCell ⟨wr.heap.size, 2, none⟩ v2).setCell ⟨wr.heap.size, 3, none⟩ v3).setCell ⟨wr.heap.size, 4, none⟩ v4).setCell ⟨wr.heap.size, 5, none⟩ v5).cell? ⟨g3, 3, none⟩ = some (.bool z3) ∧ ((((((w13.setCell ⟨wr.heap.size, 0, none⟩ v0).setCell ⟨wr.heap.size, 1, none⟩ v1).setCell ⟨wr.heap.size, 2, none⟩ v2).setCell ⟨wr.heap.size, 3, none⟩ v3).setCell ⟨wr.heap.size, 4, none⟩ v4).setCell ⟨wr.heap.size, 5, none⟩ v5).cell? ⟨g3, 4, none⟩ = some (.string z4) ∧ ((((((w13.setCell ⟨wr.heap.size, 0, none⟩ v0).setCell ⟨wr.heap.size, 1, none⟩ v1).setCell ⟨wr.heap.size, 2, none⟩ v2).setCell ⟨wr.heap.size, 3, none⟩ v3).setCell ⟨wr.heap.size, 4, none⟩ v4).setCell ⟨wr.heap.size, 5, none⟩ v5).cell? ⟨g3, 5, none⟩ = some (.int .i64 z5)) := qh (fun v0 v1 v2 v3 v4 v5 => SK.out _ (K3.out.qdk (Nat.le_refl _) v0 v1 v2 v3 v4 v5)); have BX := qh ((Bx.new wr ZL0 28 wr.heap.size rfl).kept ((Below.refl _ (World.alloc wr (.cells ZL0.toArray 28))).drew.trans (hk13.mono (Nat.le_refl _)))); clear hk13)
     refine hK.out _ _ ?_ (fun hHeld => ?_)
     ·first | with_reducible assumption | with_reducible exact KA.out _ | with_reducible exact KR.out _ | with_reducible exact KC.out _ _ _ _ _ _
     clear hK K
     try simp only [Act.put, tdy]
     refine wS 5 52 ?_
     refine wS 6 58 ?_
     refine wS 7 59 ?_
     obtain ⟨e0, e1, e2, e3, e4, e5⟩ := BX.out.c6
     obtain ⟨f0, f1, f2, f3, f4, f5⟩ := BX.out.f6
     refine oS 9 fun K hK => ?_
     go_simp
     refine hK.out _ _ ?_ (fun hHeld => ?_)
     ·first | with_reducible assumption | with_reducible exact KA.out _ | with_reducible exact KR.out _ | with_reducible exact KC.out _ _ _ _ _ _
     clear hK K
     try simp only [Act.put, tdy]
     refine eS 10 fun K hK => ?_
     go_simp
     refine hK.out _ _ ?_
     clear hK K
     try simp only [Act.put, tdy]
     refine dS ?_ _
     go_wp2_with fail
     go_meet
     exact ⟨wr.heap.size, rfl, rfl, ((((((BX.out.set 0 _ (by simp)).set 1 _ (by simp)).set 2 _ (by simp)).set 3 _ (by simp)).set 4 _ (by simp)).set 5 _ (by simp)), K3.out.qdk (Nat.le_refl _) _ _ _ _ _ _⟩
   case rest =>
   obtain ⟨gs, rfl, rfl, bs, kw⟩ := hcut
   have BS := qh bs
   have KW := qh (KR.out.trans' kw)
   replace B2 := qh (B2.out.kept kw)
   replace B4 := qh (B4.out.kept kw)
   replace B5 := qh (B5.out.kept kw)
   clear bs kw SK SUB KR
   obtain ⟨c0, c1, c2, c3, c4, c5⟩ := BS.out.c6
   go_upto_region 15 with (go_at_call 80; (with_reducible refine (NRM.out _).mono ?_); rintro e w14 ⟨rfl, hk14⟩)
   have K15 := qh (Kept.new (KW.out.trans' hk14) (.cells (LC0 n0 n1 n2).toArray 24))
   have BN := qh (Bx.new w14 (LC0 n0 n1 n2) 24 w14.heap.size rfl)
   replace B2 := qh ((B2.out.kept hk14).kept (Kept.new (Below.refl _ _) (.cells (LC0 n0 n1 n2).toArray 24)))
   replace B4 := qh ((B4.out.kept hk14).kept (Kept.new (Below.refl _ _) (.cells (LC0 n0 n1 n2).toArray 24)))
   replace B5 := qh ((B5.out.kept hk14).kept (Kept.new (Below.refl _ _) (.cells (LC0 n0 n1 n2).toArray 24)))
   obtain ⟨gn, hg⟩ : ∃ g, g = w14.heap.size := ⟨_, rfl⟩
   rw [← hg] at BN ⊢
   clear hg hk14
   generalize (w14.alloc (.cells (LC0 n0 n1 n2).toArray 24)) = w15 at *
   clear c0 c1 c2 c3 c4 c5 NRM BS KW
   rcases hs6 with rfl | rfl
   rotate_left
   ·have HE := qh (show E = 4 from by
     have h8 := HFEE.out
     rw [if_neg (fun h => absurd h.1 (by decide))] at h8
     have h9 := HC2.out; simp at h9; exact h9 h8.symm)
    obtain ⟨re0, re1⟩ : (World.cell? _ ⟨b + 1, 0, none⟩ = some (.complex .f64 0 0)) ∧ (World.cell? _ ⟨b + 1, 1, none⟩ = some (.float .f64 0)) := ⟨(B1.out.kept K15.out).c 0 rfl, (B1.out.kept K15.out).c 1 rfl⟩
    obtain ⟨rf0, rf1⟩ : (World.frozen? _ ⟨b + 1, 0, none⟩ = false) ∧ (World.frozen? _ ⟨b + 1, 1, none⟩ = false) := ⟨(B1.out.kept K15.out).f 0, (B1.out.kept K15.out).f 1⟩
    go_wp2_with fail
    exact bodyPost_ret (v := .tuple #[.agg #[.complex .f64 0 0, .float .f64 0], .int .i64 4]) (by simp [results, results41, go_sem, re0, re1]) rfl (HPQ.out 4 0 0 0 _ HE.out.symm (by decide) (by decide) (by decide) (((K1.out.trans' K15.out).set (b := b + 1) (by have := HB.out; omega) 0 _).set (b := b + 1) (by have := HB.out; omega) 1 _))
   rcases hn3 with rfl | rfl
   rotate_left
   ·have HE := qh (show E = 4 from by
     have h8 := HFEE.out
     rw [if_neg (fun h => absurd h.2 (by decide))] at h8
     have h9 := HC2.out; simp at h9; exact h9 h8.symm)
    obtain ⟨re0, re1⟩ : (World.cell? _ ⟨b + 1, 0, none⟩ = some (.complex .f64 0 0)) ∧ (World.cell? _ ⟨b + 1, 1, none⟩ = some (.float .f64 0)) := ⟨(B1.out.kept K15.out).c 0 rfl, (B1.out.kept K15.out).c 1 rfl⟩
    obtain ⟨rf0, rf1⟩ : (World.frozen? _ ⟨b + 1, 0, none⟩ = false) ∧ (World.frozen? _ ⟨b + 1, 1, none⟩ = false) := ⟨(B1.out.kept K15.out).f 0, (B1.out.kept K15.out).f 1⟩
    go_wp2_with fail
    exact bodyPost_ret (v := .tuple #[.agg #[.complex .f64 0 0, .float .f64 0], .int .i64 4]) (by simp [results, results41, go_sem, re0, re1]) rfl (HPQ.out 4 0 0 0 _ HE.out.symm (by decide) (by decide) (by decide) (((K1.out.trans' K15.out).set (b := b + 1) (by have := HB.out; omega) 0 _).set (b := b + 1) (by have := HB.out; omega) 1 _))
   obtain ⟨c0, c1, c2⟩ := B5.out.c3
   obtain ⟨d0, d1, d2⟩ := BN.out.c3
   have HF2 := qh (show qd0 ⟨⟨z0, z1, z2⟩, ⟨z3, z4, z5⟩⟩ (L.drop (k + 1)) (if 0 < -cc then ⟨n0, n1, n2⟩ else ⟨m0, m1, m2⟩) = F from by have h8 := HFEE.out; rw [if_pos ⟨rfl, rfl⟩] at h8; exact h8)
   clear HFEE
   by_cases hcc : cc < 0
   ·have HF3 := qh (show qd0 ⟨⟨z0, z1, z2⟩, ⟨z3, z4, z5⟩⟩ (L.drop (k + 1)) ⟨n0, n1, n2⟩ = F from by have h8 := HF2.out; rw [if_pos (by omega)] at h8; exact h8)
    clear HF2
    go_upto_region 18 with (go_at_call 81; (with_reducible refine (CMP.out _).mono ?_); rintro e w16 ⟨rfl, hk16⟩)
    replace B2 := qh (B2.out.kept hk16)
    replace B4 := qh (B4.out.kept hk16)
    replace B5 := qh (B5.out.kept hk16)
    replace BN := qh (BN.out.kept hk16)
    replace K15 := qh (K15.out.trans' hk16)
    clear c0 c1 c2 d0 d1 d2 hk16
    obtain ⟨c0, c1, c2⟩ := B5.out.c3
    obtain ⟨f0, f1, f2⟩ := B5.out.f3
    obtain ⟨d0, d1, d2⟩ := BN.out.c3
    go_wp2_with fail
    go_roundg gh
    case measure => omega
    case rel =>
     exact ⟨k + 1, ⟨n0, n1, n2⟩, by omega, by go_num, HNO.out, hN0.out, HF3.out, ((B5.out.set 0 _ (by simp)).set 1 _ (by simp)).set 2 _ (by simp), ((B2.out.far ⟨q, 0, none⟩ HGQ.out.1 _).far ⟨q, 1, none⟩ HGQ.out.1 _).far ⟨q, 2, none⟩ HGQ.out.1 _, ((B4.out.far ⟨q, 0, none⟩ HGQ.out.2 _).far ⟨q, 1, none⟩ HGQ.out.2 _).far ⟨q, 2, none⟩ HGQ.out.2 _, K15.out.qaL HQ.out _ _ _⟩
   ·have HF3 := qh (show qd0 ⟨⟨z0, z1, z2⟩, ⟨z3, z4, z5⟩⟩ (L.drop (k + 1)) ⟨m0, m1, m2⟩ = F from by have h8 := HF2.out; rw [if_neg (by omega)] at h8; exact h8)
    clear HF2
    go_wp2_with (go_at_call 81; (with_reducible refine (CMP.out _).mono ?_); rintro e w16 ⟨rfl, hk16⟩; replace B2 := qh (B2.out.kept hk16); replace B4 := qh (B4.out.kept hk16); replace B5 := qh (B5.out.kept hk16); replace K15 := qh (K15.out.trans' hk16); clear hk16)
    go_roundg gh
    case measure => omega
    case rel =>
     exact ⟨k + 1, ⟨m0, m1, m2⟩, by omega, by go_num, HMO.out, HM0.out, HF3.out, B5.out, B2.out, B4.out, K15.out⟩
theorem qgI (s : SqD) (w : World) (hs : sqB s = true) :
  Calls prog 41 #[.agg #[.bool s.left.neg, .string s.left.n, .int .i64 s.left.e, .bool s.low.neg, .string s.low.n, .int .i64 s.low.e, .int .i64 s.e]] w fun en w' => ∃ c1 c2 r : Nat, c1 < 18446744073709551616 ∧ c2 < 18446744073709551616 ∧ r < 18446744073709551616 ∧ en = .returned (.tuple #[.agg #[.complex .f64 c1 c2, .float .f64 r], .int .i64 (qaj s).2]) ∧ Kept w w' := by
 by_cases h : (qaN s).2 = 0 ∧ (qaZ s).2 = 0
 ·exact qjq s (qaN s).1 (qaZ s).1 w hs (qce _ _ (qas.1 hs).1) (qce _ _ (qas.1 hs).2.1) (by unfold qaA; rw [if_pos h])
 ·exact qjo s w hs (by unfold qaA; rw [if_neg h])
end
section
attribute [local go_sem] run_float_arith qaI qaJ qau qah qae
structure RuD where
 k : Int
 c : GsD
 r : DyD
 x : Nat
 y : Nat
structure RuD.ok (u : RuD) : Prop where
 k0 : -9223372036854775808 ≤ u.k
 k1 : u.k ≤ 9223372036854775807
 re : u.c.re.ok
 im : u.c.im.ok
 r : u.r.ok
 x : u.x < 18446744073709551616
 y : u.y < 18446744073709551616
def qk6 (u : RuD) (c1 c2 r : Nat) : Int :=
 if (gsB u.c && qad u.r) = true then
  if (qbE c1 c2).2 = 0 ∧ (qa9 r).2 = 0 then
   if qeK (qbE c1 c2).1 (qa9 r).1 u.c u.r = (true, 0) then 1
   else if qfS (qbE c1 c2).1 (qa9 r).1 u.c u.r = (true, 0) then 2 else 0
  else 0
 else 0
abbrev ruL (u : RuD) : List Value := [.int .i64 u.k, .bool u.c.re.neg, .string u.c.re.n, .int .i64 u.c.re.e, .bool u.c.im.neg, .string u.c.im.n, .int .i64 u.c.im.e, .bool u.r.neg, .string u.r.n, .int .i64 u.r.e, .float .f64 u.x, .float .f64 u.y]
set_option maxRecDepth 100000 in
set_option maxHeartbeats 3200000 in
theorem qlm (u : RuD) (hu : u.k = 1) (c1 c2 r : Nat) (w : World) :
  Calls prog 98 #[.agg (ruL u).toArray, .agg #[.complex .f64 c1 c2, .float .f64 r]] w fun en w' => en = .returned (.int .u8 (if (FloatKind.f64.format.order c1 u.x == some .gt) = true then 2 else if (FloatKind.f64.format.order r u.y == some .lt) = true then 1 else 0)) ∧ Kept w w' := by
 obtain ⟨k, ⟨⟨a0, a1, a2⟩, ⟨a3, a4, a5⟩⟩, ⟨a6, a7, a8⟩, x, y⟩ := u
 simp only at hu ⊢
 subst hu
 by_cases h1 : (FloatKind.f64.format.order c1 x == some .gt) = true
 ·rw [if_pos h1]
  go_enter func98, ntmps98
  go_upto_region 1 with fail
  obtain ⟨b, w1, hw, hb, B0, B1, K1, HB⟩ := qa7 w [.int .i64 1, .bool a0, .string a1, .int .i64 a2, .bool a3, .string a4, .int .i64 a5, .bool a6, .string a7, .int .i64 a8, .float .f64 x, .float .f64 y] 31 [.complex .f64 c1 c2, .float .f64 r] 85
  rw [← hw, ← hb]; clear hw hb
  have k0 := B0.out.c 0 rfl
  have k10 := B0.out.c 10 rfl
  have k11 := B0.out.c 11 rfl
  have l0 := B1.out.c 0 rfl
  have l1 := B1.out.c 1 rfl
  go_wp2_with fail
  exact bodyPost_ret (v := .int .u8 2) (by simp [results, results98, go_sem]) rfl ⟨rfl, K1.out⟩
 ·rw [if_neg h1]
  by_cases h2 : (FloatKind.f64.format.order r y == some .lt) = true
  ·rw [if_pos h2]
   go_enter func98, ntmps98
   go_upto_region 1 with fail
   obtain ⟨b, w1, hw, hb, B0, B1, K1, HB⟩ := qa7 w [.int .i64 1, .bool a0, .string a1, .int .i64 a2, .bool a3, .string a4, .int .i64 a5, .bool a6, .string a7, .int .i64 a8, .float .f64 x, .float .f64 y] 31 [.complex .f64 c1 c2, .float .f64 r] 85
   rw [← hw, ← hb]; clear hw hb
   have k0 := B0.out.c 0 rfl
   have k10 := B0.out.c 10 rfl
   have k11 := B0.out.c 11 rfl
   have l0 := B1.out.c 0 rfl
   have l1 := B1.out.c 1 rfl
   go_wp2_with fail
   exact bodyPost_ret (v := .int .u8 1) (by simp [results, results98, go_sem]) rfl ⟨rfl, K1.out⟩
  ·rw [if_neg h2]
   go_enter func98, ntmps98
   go_upto_region 1 with fail
   obtain ⟨b, w1, hw, hb, B0, B1, K1, HB⟩ := qa7 w [.int .i64 1, .bool a0, .string a1, .int .i64 a2, .bool a3, .string a4, .int .i64 a5, .bool a6, .string a7, .int .i64 a8, .float .f64 x, .float .f64 y] 31 [.complex .f64 c1 c2, .float .f64 r] 85
   rw [← hw, ← hb]; clear hw hb
   have k0 := B0.out.c 0 rfl
   have k10 := B0.out.c 10 rfl
   have k11 := B0.out.c 11 rfl
   have l0 := B1.out.c 0 rfl
   have l1 := B1.out.c 1 rfl
   go_wp2_with fail
   exact bodyPost_ret (v := .int .u8 0) (by simp [results, results98, go_sem]) rfl ⟨rfl, K1.out⟩
end
end Go.Proofs.YtfdnledkcongaaaGreatDoor
