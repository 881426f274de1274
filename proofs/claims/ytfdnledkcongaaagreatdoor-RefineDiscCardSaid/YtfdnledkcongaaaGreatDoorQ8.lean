/- Texts of one claim laid together: RsC, VieA, VieB, BxR, VieC, VieD, VrA. -/
import Derived.Test.YtfdnledkcongaaaGreatDoorQ7
import Derived.Laws.Rows
set_option linter.all false
namespace Go.Proofs.YtfdnledkcongaaaGreatDoor
open Go.RowKit Go.Proofs.Tryz
section
set_option maxHeartbeats 3200000
set_option maxRecDepth 100000
theorem qhM (x y : GsD) (r : DyD) (w : World) (hx : gsB x = true) (hy : gsB y = true) (hr : qad r = true) :
  Calls prog 176 #[.agg #[.bool x.re.neg, .string x.re.n, .int .i64 x.re.e, .bool x.im.neg, .string x.im.n, .int .i64 x.im.e], .agg #[.bool y.re.neg, .string y.re.n, .int .i64 y.re.e, .bool y.im.neg, .string y.im.n, .int .i64 y.im.e], .agg #[.bool r.neg, .string r.n, .int .i64 r.e]] w fun en w' => en = .returned (.tuple #[.int .i64 (qen x y r).1, .int .i64 (qen x y r).2]) ∧ Kept w w' := by
 have SUB := qh (fun W => qhs x y W hx hy)
 have MUL := qh (fun W => qfb r r W hr hr)
 have HS := qgW x y
 have HM := qgD r r
 have hS1 := qiw hx hy
 have hM1 := qdm r r
 unfold qen
 generalize qej x y = S at *
 generalize mulS r r = M at *
 have NRM := qh (fun W => qhh S.1 W hS1)
 have HN : (qbX S.1).2 = 0 ∨ qbX S.1 = (zD, 4) := qhg _ _
 have hN1 := qgY S.1
 generalize qbX S.1 = N at *
 have CMP := qh (fun W => qcZ N.1 M.1 W hN1 hM1)
 generalize qbx N.1 M.1 = C at *
 obtain ⟨⟨⟨a0, a1, a2⟩, ⟨a3, a4, a5⟩⟩, a6⟩ := S
 obtain ⟨⟨n0, n1, n2⟩, n3⟩ := N
 obtain ⟨⟨m0, m1, m2⟩, m3⟩ := M
 obtain ⟨⟨x0, x1, x2⟩, ⟨x3, x4, x5⟩⟩ := x
 obtain ⟨⟨y0, y1, y2⟩, ⟨y3, y4, y5⟩⟩ := y
 obtain ⟨r0, r1, r2⟩ := r
 simp only at SUB MUL NRM CMP HS HM HN ⊢
 have hs : a6 = 0 ∨ a6 = 4 := HS.imp id (fun h => (Prod.mk.inj h).2)
 have hn : n3 = 0 ∨ n3 = 4 := HN.imp id (fun h => (Prod.mk.inj h).2)
 have hm : m3 = 0 ∨ m3 = 4 := HM.imp id (fun h => (Prod.mk.inj h).2)
 clear hx hy hr HS HM HN hS1 hM1 hN1
 go_enter func176, ntmps176
 go_upto_region 1 with fail
 obtain ⟨b, w1, hw, hb, B0, B1, B2, K1, HB⟩ := qct w (LC1 x0 x1 x2 x3 x4 x5) 28 (LC1 y0 y1 y2 y3 y4 y5) 28 (LC0 r0 r1 r2) 24
 rw [← hw, ← hb]; clear hw hb
 obtain ⟨c0, c1, c2, c3, c4, c5⟩ := B0.out.c6
 obtain ⟨d0, d1, d2, d3, d4, d5⟩ := B1.out.c6
 go_upto_region 2 with (go_at_call 79; (with_reducible refine (SUB.out _).mono ?_); rintro e w3 ⟨rfl, hk3⟩)
 have K4 := qh (Kept.new hk3 (.cells (LC1 a0 a1 a2 a3 a4 a5).toArray 28))
 have B3 := qh (Bx.new w3 (LC1 a0 a1 a2 a3 a4 a5) 28 w3.heap.size rfl)
 obtain ⟨g, hg⟩ : ∃ g, g = w3.heap.size := ⟨_, rfl⟩
 rw [← hg] at B3 ⊢
 clear hg hk3
 generalize (w3.alloc (.cells (LC1 a0 a1 a2 a3 a4 a5).toArray 28)) = w4 at *
 clear SUB c0 c1 c2 c3 c4 c5 d0 d1 d2 d3 d4 d5
 rcases hs with rfl | rfl
 ·obtain ⟨c0, c1, c2, c3, c4, c5⟩ := B3.out.c6
  go_upto_region 5 with (go_at_call 80; (with_reducible refine (NRM.out _).mono ?_); rintro e w5 ⟨rfl, hk5⟩)
  have K6 := qh (Kept.new (K4.out.trans' hk5) (.cells (LC0 n0 n1 n2).toArray 24))
  have B4 := qh (Bx.new w5 (LC0 n0 n1 n2) 24 w5.heap.size rfl)
  obtain ⟨g2, hg⟩ : ∃ g, g = w5.heap.size := ⟨_, rfl⟩
  rw [← hg] at B4 ⊢
  clear hg hk5
  generalize (w5.alloc (.cells (LC0 n0 n1 n2).toArray 24)) = w6 at *
  clear NRM c0 c1 c2 c3 c4 c5
  obtain ⟨c0, c1, c2⟩ := (B2.out.kept K6.out).c3
  go_upto_region 6 with (go_at_call 127; (with_reducible refine (MUL.out _).mono ?_); rintro e w7 ⟨rfl, hk7⟩)
  have K8 := qh (Kept.new (K6.out.trans' hk7) (.cells (LC0 m0 m1 m2).toArray 24))
  have B5 := qh (Bx.new w7 (LC0 m0 m1 m2) 24 w7.heap.size rfl)
  replace B4 := qh ((B4.out.kept hk7).kept (Kept.new (Below.refl _ _) (.cells (LC0 m0 m1 m2).toArray 24)))
  obtain ⟨g3, hg⟩ : ∃ g, g = w7.heap.size := ⟨_, rfl⟩
  rw [← hg] at B5 ⊢
  clear hg hk7
  generalize (w7.alloc (.cells (LC0 m0 m1 m2).toArray 24)) = w8 at *
  clear MUL c0 c1 c2
  rcases hn with rfl | rfl
  ·rcases hm with rfl | rfl
   ·obtain ⟨c0, c1, c2⟩ := B4.out.c3
    obtain ⟨d0, d1, d2⟩ := B5.out.c3
    go_wp2_with (go_at_call 81; (with_reducible refine (CMP.out _).mono ?_); rintro e w9 ⟨rfl, hk9⟩)
    go_ret2
    exact ⟨rfl, (K1.out.trans' K8.out).trans' hk9⟩
   ·go_wp2_with fail
    go_ret2
    exact ⟨rfl, K1.out.trans' K8.out⟩
  ·go_wp2_with fail
   go_ret2
   exact ⟨rfl, K1.out.trans' K8.out⟩
 ·go_wp2_with fail
  go_ret2
  exact ⟨rfl, K1.out.trans' K4.out⟩
theorem qi4 (c : GsD) (r : DyD) (d : GsD) (s : DyD) (w : World) (hc : gsB c = true) (hr : qad r = true) (hd : gsB d = true) (hs : qad s = true) :
  Calls prog 140 #[.agg #[.bool c.re.neg, .string c.re.n, .int .i64 c.re.e, .bool c.im.neg, .string c.im.n, .int .i64 c.im.e], .agg #[.bool r.neg, .string r.n, .int .i64 r.e], .agg #[.bool d.re.neg, .string d.re.n, .int .i64 d.re.e, .bool d.im.neg, .string d.im.n, .int .i64 d.im.e], .agg #[.bool s.neg, .string s.n, .int .i64 s.e]] w fun en w' => en = .returned (.tuple #[.bool (qeK c r d s).1, .int .i64 (qeK c r d s).2]) ∧ Kept w w' := by
 have CMP := qh (fun W => qcZ r s W hr hs)
 have SUB := qh (fun W => qnT s r W hs hr)
 have hT1 := qis hs hr
 have HS := qgV s r
 have HV : qeK c r d s = if 0 < qbx r s then (false, 0) else if (qdG s r).2 = 0 then (decide ((qen c d (qdG s r).1).2 = 0) && decide ((qen c d (qdG s r).1).1 ≤ 0), (qen c d (qdG s r).1).2) else (false, 4) := rfl
 generalize qdG s r = T at *
 have FAR := qh (fun W => qhM c d T.1 W hc hd hT1)
 generalize qen c d T.1 = F at *
 generalize qeK c r d s = V at *
 generalize qbx r s = k at *
 obtain ⟨⟨x0, x1, x2⟩, ⟨x3, x4, x5⟩⟩ := c
 obtain ⟨⟨y0, y1, y2⟩, ⟨y3, y4, y5⟩⟩ := d
 obtain ⟨r0, r1, r2⟩ := r
 obtain ⟨s0, s1, s2⟩ := s
 obtain ⟨⟨t0, t1, t2⟩, t3⟩ := T
 obtain ⟨n, f⟩ := F
 simp only at CMP SUB FAR HV HS ⊢
 have ht : t3 = 0 ∨ t3 = 4 := HS.imp id (fun h => (Prod.mk.inj h).2)
 have HVV := qh HV
 clear hc hr hd hs hT1 HS HV
 go_enter func140, ntmps140
 go_upto_region 1 with fail
 obtain ⟨b, w1, hw, hb, B0, B1, B2, B3, K1, HB⟩ := qoN w (LC1 x0 x1 x2 x3 x4 x5) 28 (LC0 r0 r1 r2) 24 (LC1 y0 y1 y2 y3 y4 y5) 28 (LC0 s0 s1 s2) 24
 rw [← hw, ← hb]; clear hw hb
 obtain ⟨c0, c1, c2⟩ := B1.out.c3
 obtain ⟨d0, d1, d2⟩ := B3.out.c3
 by_cases hk : 0 < k
 ·have H1 := qh (show V = (false, 0) by rw [HVV.out, if_pos hk])
  go_wp2_with (go_at_call 81; (with_reducible refine (CMP.out _).mono ?_); rintro e w3 ⟨rfl, hk3⟩)
  exact bodyPost_ret (v := .tuple #[.bool false, .int .i64 0]) (by simp [results, results140, go_sem]) rfl ⟨by rw [H1.out], K1.out.trans' hk3⟩
 ·have H1 := qh (show ¬ 0 < k from hk)
  go_upto_region 3 with (go_at_call 81; (with_reducible refine (CMP.out _).mono ?_); rintro e w3 ⟨rfl, hk3⟩)
  have K3 := qh hk3
  clear hk3 c0 c1 c2 d0 d1 d2
  obtain ⟨c0, c1, c2⟩ := (B1.out.kept K3.out).c3
  obtain ⟨d0, d1, d2⟩ := (B3.out.kept K3.out).c3
  go_upto_region 4 with (go_at_call 175; (with_reducible refine (SUB.out _).mono ?_); rintro e w4 ⟨rfl, hk4⟩)
  have K5 := qh (Kept.new (K3.out.trans' hk4) (.cells (LC0 t0 t1 t2).toArray 24))
  have B4 := qh (Bx.new w4 (LC0 t0 t1 t2) 24 w4.heap.size rfl)
  obtain ⟨g, hg⟩ : ∃ g, g = w4.heap.size := ⟨_, rfl⟩
  rw [← hg] at B4 ⊢
  clear hg hk4
  generalize (w4.alloc (.cells (LC0 t0 t1 t2).toArray 24)) = w5 at *
  clear c0 c1 c2 d0 d1 d2 SUB CMP
  rcases ht with rfl | rfl
  ·obtain ⟨c0, c1, c2, c3, c4, c5⟩ := (B0.out.kept K5.out).c6
   obtain ⟨d0, d1, d2, d3, d4, d5⟩ := (B2.out.kept K5.out).c6
   obtain ⟨e0, e1, e2⟩ := B4.out.c3
   have H2 := qh (show V = (decide (f = 0) && decide (n ≤ 0), f) by rw [HVV.out, if_neg (by have := H1.out; omega)]; rfl)
   by_cases hf : f = 0
   ·subst hf
    go_wp2_with (go_at_call 176; (with_reducible refine (FAR.out _).mono ?_); rintro e w6 ⟨rfl, hk6⟩)
    exact bodyPost_ret (v := .tuple #[.bool (decide (n ≤ 0)), .int .i64 0]) (by simp [results, results140, go_sem]) rfl ⟨by rw [H2.out]; simp, (K1.out.trans' K5.out).trans' hk6⟩
   ·go_wp2_with (go_at_call 176; (with_reducible refine (FAR.out _).mono ?_); rintro e w6 ⟨rfl, hk6⟩)
    exact bodyPost_ret (v := .tuple #[.bool false, .int .i64 f]) (by simp [results, results140, go_sem]) rfl ⟨by rw [H2.out]; simp [hf], (K1.out.trans' K5.out).trans' hk6⟩
  ·have H2 := qh (show V = (false, 4) by rw [HVV.out, if_neg (by have := H1.out; omega)]; rfl)
   go_wp2_with fail
   exact bodyPost_ret (v := .tuple #[.bool false, .int .i64 4]) (by simp [results, results140, go_sem]) rfl ⟨by rw [H2.out], K1.out.trans' K5.out⟩
theorem qj1 (c : GsD) (r : DyD) (d : GsD) (s : DyD) (w : World) (hc : gsB c = true) (hr : qad r = true) (hd : gsB d = true) (hs : qad s = true) :
  Calls prog 141 #[.agg #[.bool c.re.neg, .string c.re.n, .int .i64 c.re.e, .bool c.im.neg, .string c.im.n, .int .i64 c.im.e], .agg #[.bool r.neg, .string r.n, .int .i64 r.e], .agg #[.bool d.re.neg, .string d.re.n, .int .i64 d.re.e, .bool d.im.neg, .string d.im.n, .int .i64 d.im.e], .agg #[.bool s.neg, .string s.n, .int .i64 s.e]] w fun en w' => en = .returned (.tuple #[.bool (qfS c r d s).1, .int .i64 (qfS c r d s).2]) ∧ Kept w w' := by
 have ADD := qh (fun W => qdX r s W hr hs)
 have hT1 := qgt hr hs
 have HS := qem r s
 have HV : qfS c r d s = if (qaS r s).2 = 0 then (decide ((qen c d (qaS r s).1).2 = 0) && decide (0 < (qen c d (qaS r s).1).1), (qen c d (qaS r s).1).2) else (false, 4) := rfl
 generalize qaS r s = T at *
 have FAR := qh (fun W => qhM c d T.1 W hc hd hT1)
 generalize qen c d T.1 = F at *
 generalize qfS c r d s = V at *
 obtain ⟨⟨x0, x1, x2⟩, ⟨x3, x4, x5⟩⟩ := c
 obtain ⟨⟨y0, y1, y2⟩, ⟨y3, y4, y5⟩⟩ := d
 obtain ⟨r0, r1, r2⟩ := r
 obtain ⟨s0, s1, s2⟩ := s
 obtain ⟨⟨t0, t1, t2⟩, t3⟩ := T
 obtain ⟨n, f⟩ := F
 simp only at ADD FAR HV HS ⊢
 have ht : t3 = 0 ∨ t3 = 4 := HS.imp id (fun h => (Prod.mk.inj h).2)
 have HVV := qh HV
 clear hc hr hd hs hT1 HS HV
 go_enter func141, ntmps141
 go_upto_region 1 with fail
 obtain ⟨b, w1, hw, hb, B0, B1, B2, B3, K1, HB⟩ := qoN w (LC1 x0 x1 x2 x3 x4 x5) 28 (LC0 r0 r1 r2) 24 (LC1 y0 y1 y2 y3 y4 y5) 28 (LC0 s0 s1 s2) 24
 rw [← hw, ← hb]; clear hw hb
 obtain ⟨c0, c1, c2⟩ := B1.out.c3
 obtain ⟨d0, d1, d2⟩ := B3.out.c3
 go_upto_region 2 with (go_at_call 91; (with_reducible refine (ADD.out _).mono ?_); rintro e w4 ⟨rfl, hk4⟩)
 have K5 := qh (Kept.new hk4 (.cells (LC0 t0 t1 t2).toArray 24))
 have B4 := qh (Bx.new w4 (LC0 t0 t1 t2) 24 w4.heap.size rfl)
 obtain ⟨g, hg⟩ : ∃ g, g = w4.heap.size := ⟨_, rfl⟩
 rw [← hg] at B4 ⊢
 clear hg hk4
 generalize (w4.alloc (.cells (LC0 t0 t1 t2).toArray 24)) = w5 at *
 clear c0 c1 c2 d0 d1 d2 ADD
 rcases ht with rfl | rfl
 ·obtain ⟨c0, c1, c2, c3, c4, c5⟩ := (B0.out.kept K5.out).c6
  obtain ⟨d0, d1, d2, d3, d4, d5⟩ := (B2.out.kept K5.out).c6
  obtain ⟨e0, e1, e2⟩ := B4.out.c3
  have H2 := qh (show V = (decide (f = 0) && decide (0 < n), f) by rw [HVV.out]; rfl)
  by_cases hf : f = 0
  ·subst hf
   go_wp2_with (go_at_call 176; (with_reducible refine (FAR.out _).mono ?_); rintro e w6 ⟨rfl, hk6⟩)
   exact bodyPost_ret (v := .tuple #[.bool (decide (0 < n)), .int .i64 0]) (by simp [results, results141, go_sem]) rfl ⟨by rw [H2.out]; simp, (K1.out.trans' K5.out).trans' hk6⟩
  ·go_wp2_with (go_at_call 176; (with_reducible refine (FAR.out _).mono ?_); rintro e w6 ⟨rfl, hk6⟩)
   exact bodyPost_ret (v := .tuple #[.bool false, .int .i64 f]) (by simp [results, results141, go_sem]) rfl ⟨by rw [H2.out]; simp [hf], (K1.out.trans' K5.out).trans' hk6⟩
 ·have H2 := qh (show V = (false, 4) by rw [HVV.out]; rfl)
  go_wp2_with fail
  exact bodyPost_ret (v := .tuple #[.bool false, .int .i64 4]) (by simp [results, results141, go_sem]) rfl ⟨by rw [H2.out], K1.out.trans' K5.out⟩
end
section
set_option maxHeartbeats 1600000
set_option maxRecDepth 100000
structure SqD.ok (s : SqD) : Prop where
 left : s.left.ok
 low : s.low.ok
 e0 : -9223372036854775808 ≤ s.e
 e1 : s.e ≤ 9223372036854775807
theorem qde {s : SqD} (h : sqB s = true) : s.ok := by
 obtain ⟨h1, h2, h3, h4⟩ := qas.1 h
 exact ⟨qda h1, qda h2, by omega, by omega⟩
theorem qnh (e : Int) (w : World) : Calls prog 95 #[.int .i64 e] w fun en w' => en = .returned (.bool (decide (-4096 ≤ e) && decide (e ≤ 4096))) ∧ w' = w := by
 by_cases h1 : -4096 ≤ e
 ·by_cases h2 : e ≤ 4096
  ·go_enter func95, ntmps95
   go_wp2
   go_ret
   exact ⟨by simp [h1, h2], rfl⟩
  ·go_enter func95, ntmps95
   go_wp2
   go_ret
   exact ⟨by simp [h1, h2], rfl⟩
 ·go_enter func95, ntmps95
  go_wp2
  go_ret
  exact ⟨by simp; omega, rfl⟩
theorem qbr (s : SqD) (w : World) (hs : s.ok) : Calls prog 54 #[.agg #[.bool s.left.neg, .string s.left.n, .int .i64 s.left.e, .bool s.low.neg, .string s.low.n, .int .i64 s.low.e, .int .i64 s.e]] w fun en w' => en = .returned (.int .i64 (if sqB s = true then 0 else 240)) ∧ Kept w w' := by
 have C1 := qh (fun W => qbq s.left W hs.left)
 have C2 := qh (fun W => qbq s.low W hs.low)
 have C3 := qh (qnh s.e)
 have HR := qh (show sqB s = (qad s.left && (qad s.low && (decide (-4096 ≤ s.e) && decide (s.e ≤ 4096)))) from rfl)
 unfold qcK at C1 C2
 obtain ⟨V, hV⟩ : ∃ V : Int, V = if sqB s = true then 0 else 240 := ⟨_, rfl⟩
 rw [← hV]
 have HV := qh hV
 clear hV
 rw [HR.out] at HV
 clear HR
 generalize qad s.left = b1 at *
 generalize qad s.low = b2 at *
 generalize (decide (-4096 ≤ s.e) && decide (s.e ≤ 4096)) = b3 at *
 obtain ⟨⟨a0, a1, a2⟩, ⟨a3, a4, a5⟩, a6⟩ := s
 simp only at C1 C2 C3 ⊢
 clear hs
 cases b1 with
 | false =>
  go_enter func54, ntmps54
  go_upto_region 1 with fail
  obtain ⟨b, w1, hw, hb, B0, K1, HB⟩ := qa4 w (LC3 a0 a1 a2 a3 a4 a5 a6) 26
  rw [← hw, ← hb]; clear hw hb
  obtain ⟨c0, c1, c2, c3, c4, c5, c6⟩ := B0.out.c7
  go_wp2_with (go_at_call 19; (with_reducible refine (C1.out _).mono ?_); rintro e w3 ⟨rfl, hk3⟩)
  go_ret
  exact ⟨by rw [HV.out]; rfl, K1.out.trans' hk3⟩
 | true =>
  cases b2 with
  | false =>
   go_enter func54, ntmps54
   go_upto_region 1 with fail
   obtain ⟨b, w1, hw, hb, B0, K1, HB⟩ := qa4 w (LC3 a0 a1 a2 a3 a4 a5 a6) 26
   rw [← hw, ← hb]; clear hw hb
   obtain ⟨c0, c1, c2, c3, c4, c5, c6⟩ := B0.out.c7
   go_wp2_with (first
    | (go_at_call 19; (with_reducible refine (C1.out _).mono ?_); rintro e w3 ⟨rfl, hk3⟩; have K3 := qh hk3; obtain ⟨c0, c1, c2, c3, c4, c5, c6⟩ := (B0.out.kept K3.out).c7)
    | (go_at_call 19; (with_reducible refine (C2.out _).mono ?_); rintro e w4 ⟨rfl, hk4⟩))
   go_ret
   exact ⟨by rw [HV.out]; rfl, (K1.out.trans' K3.out).trans' hk4⟩
  | true =>
   cases b3 with
   | false =>
    go_enter func54, ntmps54
    go_upto_region 1 with fail
    obtain ⟨b, w1, hw, hb, B0, K1, HB⟩ := qa4 w (LC3 a0 a1 a2 a3 a4 a5 a6) 26
    rw [← hw, ← hb]; clear hw hb
    obtain ⟨c0, c1, c2, c3, c4, c5, c6⟩ := B0.out.c7
    go_wp2_with (first
     | (go_at_call 19; (with_reducible refine (C1.out _).mono ?_); rintro e w3 ⟨rfl, hk3⟩; have K3 := qh hk3; obtain ⟨c0, c1, c2, c3, c4, c5, c6⟩ := (B0.out.kept K3.out).c7)
     | (go_at_call 19; (with_reducible refine (C2.out _).mono ?_); rintro e w4 ⟨rfl, hk4⟩; have K4 := qh (K3.out.trans' hk4); obtain ⟨c0, c1, c2, c3, c4, c5, c6⟩ := (B0.out.kept K4.out).c7)
     | (go_at_call 95; (with_reducible refine (C3.out _).mono ?_); rintro e w5 ⟨rfl, hw5⟩; replace hw5 := hw5.symm; subst hw5))
    go_ret
    exact ⟨by rw [HV.out]; rfl, K1.out.trans' K4.out⟩
   | true =>
    go_enter func54, ntmps54
    go_upto_region 1 with fail
    obtain ⟨b, w1, hw, hb, B0, K1, HB⟩ := qa4 w (LC3 a0 a1 a2 a3 a4 a5 a6) 26
    rw [← hw, ← hb]; clear hw hb
    obtain ⟨c0, c1, c2, c3, c4, c5, c6⟩ := B0.out.c7
    go_wp2_with (first
     | (go_at_call 19; (with_reducible refine (C1.out _).mono ?_); rintro e w3 ⟨rfl, hk3⟩; have K3 := qh hk3; obtain ⟨c0, c1, c2, c3, c4, c5, c6⟩ := (B0.out.kept K3.out).c7)
     | (go_at_call 19; (with_reducible refine (C2.out _).mono ?_); rintro e w4 ⟨rfl, hk4⟩; have K4 := qh (K3.out.trans' hk4); obtain ⟨c0, c1, c2, c3, c4, c5, c6⟩ := (B0.out.kept K4.out).c7)
     | (go_at_call 95; (with_reducible refine (C3.out _).mono ?_); rintro e w5 ⟨rfl, hw5⟩; replace hw5 := hw5.symm; subst hw5))
    go_ret
    exact ⟨by rw [HV.out]; rfl, K1.out.trans' K4.out⟩
theorem qh3 (d : DyD) (n e : Int) (w : World) (hd : qad d = true) (hn : n.natAbs ≤ 1000000) (h1 : -1000000 ≤ e) (h2 : e ≤ 1000000) (hT : T32 w) :
  Calls prog 96 #[.agg #[.bool d.neg, .string d.n, .int .i64 d.e], .int .i64 n, .int .i64 e] w fun en w' => en = .returned (qaf (qaM d n e)) ∧ Kept w w' := by
 have OF : Hid (∀ W, Kept w W → Calls prog 132 #[.int .i64 n, .int .i64 e] W fun en w' => en = .returned (qaf (qbh n e)) ∧ Kept W w') := fun W h => qnD n e W (by omega) (by omega) (by omega) (by omega) (hT.kept h)
 have hz := qoo (n := n) (e := e) (by omega) h1 h2
 have ho : qad (qbh n e).1 = true := qeF _ _
 unfold qaM ofS
 generalize qbh n e = F at *
 have ADD : Hid (∀ W, Kept w W → Calls prog 90 #[.agg #[.bool d.neg, .string d.n, .int .i64 d.e], .agg #[.bool F.1.neg, .string F.1.n, .int .i64 F.1.e]] W fun en w' => en = .returned (qaf (qaS d F.1)) ∧ Kept W w') := fun W h => qhd d F.1 W hd ho (hT.kept h)
 generalize qaS d F.1 = R at *
 obtain ⟨⟨f0, f1, f2⟩, f3⟩ := F
 obtain ⟨d0, d1, d2⟩ := d
 simp only at OF hz ADD ⊢
 subst hz
 clear hd hn h1 h2 hT ho
 go_enter func96, ntmps96
 go_upto_region 1 with fail
 obtain ⟨b, w1, hw, hb, B0, B1, K1, HB⟩ := qa7 w (LC0 d0 d1 d2) 24 (LC0 false ⟨#[]⟩ 0) 24
 rw [← hw, ← hb]; clear hw hb
 go_upto_region 2 with (go_at_call 132; (with_reducible refine (OF.out _ K1.out).mono ?_); rintro e w3 ⟨rfl, hk3⟩)
 have K4 := qh (Kept.new hk3 (.cells (LC0 f0 f1 f2).toArray 24))
 have B3 := qh (Bx.new w3 (LC0 f0 f1 f2) 24 w3.heap.size rfl)
 obtain ⟨g, hg⟩ : ∃ g, g = w3.heap.size := ⟨_, rfl⟩
 rw [← hg] at B3 ⊢
 clear hg hk3 OF
 generalize (w3.alloc (.cells (LC0 f0 f1 f2).toArray 24)) = w4 at *
 obtain ⟨c0, c1, c2⟩ := (B0.out.kept K4.out).c3
 obtain ⟨e0, e1, e2⟩ := B3.out.c3
 go_wp2_with (go_at_call 90; (with_reducible refine (ADD.out _ (K1.out.trans' K4.out)).mono ?_); rintro e w5 ⟨rfl, hk5⟩; have K5 := qh (K4.out.trans' hk5); obtain ⟨r0, r1, r2⟩ := (B1.out.kept K5.out).c3; obtain ⟨t0, t1, t2⟩ := (B1.out.kept K5.out).f3)
 exact bodyPost_ret (v := qaf R) (by simp [results, results96, go_sem, r0, r1, r2, qaf]) rfl ⟨rfl, (K1.out.trans' K5.out).qaL (by have := HB.out; omega) _ _ _⟩
end
section
set_option maxHeartbeats 3200000
set_option maxRecDepth 100000
theorem qiU (d : DyD) (n e : Int) : (qaM d n e).2 = 0 ∨ qaM d n e = (zD, 4) := qem _ _
theorem qbo (s : SqD) (r u : Int) (w : World) (hs : sqB s = true) (hr : r.natAbs ≤ 1000) (hu : u.natAbs ≤ 1000) (hT : T32 w) :
  Calls prog 55 #[.agg #[.bool s.left.neg, .string s.left.n, .int .i64 s.left.e, .bool s.low.neg, .string s.low.n, .int .i64 s.low.e, .int .i64 s.e], .int .i64 r, .int .i64 u] w
   fun en w' => en = .returned (qaC (qaF (qaM s.left r (s.e - 1)) (qaM s.low u (s.e - 1)))) ∧ Kept w w' := by
 obtain ⟨hs1, hs2, hs3, hs4⟩ := qas.1 hs
 have M1 : Hid (∀ W, Kept w W → Calls prog 96 #[.agg #[.bool s.left.neg, .string s.left.n, .int .i64 s.left.e], .int .i64 r, .int .i64 (s.e - 1)] W fun en w' => en = .returned (qaf (qaM s.left r (s.e - 1))) ∧ Kept W w') := fun W h => qh3 s.left r (s.e - 1) W hs1 (by omega) (by omega) (by omega) (hT.kept h)
 have M2 : Hid (∀ W, Kept w W → Calls prog 96 #[.agg #[.bool s.low.neg, .string s.low.n, .int .i64 s.low.e], .int .i64 u, .int .i64 (s.e - 1)] W fun en w' => en = .returned (qaf (qaM s.low u (s.e - 1))) ∧ Kept W w') := fun W h => qh3 s.low u (s.e - 1) W hs2 (by omega) (by omega) (by omega) (hT.kept h)
 have H1 := qiU s.left r (s.e - 1)
 have H2 := qiU s.low u (s.e - 1)
 generalize qaM s.left r (s.e - 1) = R at *
 generalize qaM s.low u (s.e - 1) = Q at *
 obtain ⟨V, hV⟩ : ∃ V, V = qaF R Q := ⟨_, rfl⟩
 rw [← hV]
 have HV := qh hV
 obtain ⟨⟨r0, r1, r2⟩, r3⟩ := R
 obtain ⟨⟨q0, q1, q2⟩, q3⟩ := Q
 obtain ⟨⟨a0, a1, a2⟩, ⟨a3, a4, a5⟩, a6⟩ := s
 simp only at M1 M2 H1 H2 hs3 hs4 ⊢
 have h1 : r3 = 0 ∨ r3 = 4 := H1.imp id (fun h => (Prod.mk.inj h).2)
 have h2 : q3 = 0 ∨ q3 = 4 := H2.imp id (fun h => (Prod.mk.inj h).2)
 clear hs hs1 hs2 hr hu hT H1 H2 hV
 go_enter func55, ntmps55
 go_upto_region 1 with fail
 obtain ⟨b, w1, hw, hb, B0, B1, K1, HB⟩ := qa7 w (LC3 a0 a1 a2 a3 a4 a5 a6) 26 ZL0 28
 rw [← hw, ← hb]; clear hw hb
 obtain ⟨c0, c1, c2, c3, c4, c5, c6⟩ := B0.out.c7
 go_upto_region 2 with (go_at_call 96; (with_reducible refine (M1.out _ K1.out).mono ?_); rintro e w3 ⟨rfl, hk3⟩)
 have K4 := qh (Kept.new hk3 (.cells (LC0 r0 r1 r2).toArray 24))
 have B3 := qh (Bx.new w3 (LC0 r0 r1 r2) 24 w3.heap.size rfl)
 obtain ⟨g, hg⟩ : ∃ g, g = w3.heap.size := ⟨_, rfl⟩
 rw [← hg] at B3 ⊢
 clear hg hk3 M1 c0 c1 c2 c3 c4 c5 c6
 generalize (w3.alloc (.cells (LC0 r0 r1 r2).toArray 24)) = w4 at *
 rcases h1 with rfl | rfl
 ·obtain ⟨c0, c1, c2, c3, c4, c5, c6⟩ := (B0.out.kept K4.out).c7
  go_upto_region 5 with (go_at_call 96; (with_reducible refine (M2.out _ (K1.out.trans' K4.out)).mono ?_); rintro e w5 ⟨rfl, hk5⟩)
  have K6 := qh (Kept.new (K4.out.trans' hk5) (.cells (LC0 q0 q1 q2).toArray 24))
  have B4 := qh (Bx.new w5 (LC0 q0 q1 q2) 24 w5.heap.size rfl)
  have B5 := qh ((B3.out.kept hk5).kept (Kept.new (Below.refl _ _) (.cells (LC0 q0 q1 q2).toArray 24)))
  obtain ⟨g2, hg2⟩ : ∃ g, g = w5.heap.size := ⟨_, rfl⟩
  rw [← hg2] at B4 ⊢
  clear hg2 hk5 K4 B3 M2 c0 c1 c2 c3 c4 c5 c6
  generalize (w5.alloc (.cells (LC0 q0 q1 q2).toArray 24)) = w6 at *
  obtain ⟨e0, e1, e2, e3, e4, e5⟩ := (B1.out.kept K6.out).c6
  obtain ⟨f0, f1, f2, f3, f4, f5⟩ := (B1.out.kept K6.out).f6
  rcases h2 with rfl | rfl
  ·obtain ⟨c0, c1, c2⟩ := B5.out.c3
   obtain ⟨d0, d1, d2⟩ := B4.out.c3
   go_wp2_with fail
   exact bodyPost_ret (v := qaC (⟨⟨r0, r1, r2⟩, ⟨q0, q1, q2⟩⟩, 0)) (by simp [results, results55, go_sem, e0, e1, e2, e3, e4, e5, qaC]) rfl ⟨by rw [HV.out]; rfl, (K1.out.trans' K6.out).qdk (by have := HB.out; omega) _ _ _ _ _ _⟩
  ·go_wp2_with fail
   exact bodyPost_ret (v := qaC (zG, 4)) (by simp [results, results55, go_sem, e0, e1, e2, e3, e4, e5, qaC, zG, zD]) rfl ⟨by rw [HV.out]; rfl, (K1.out.trans' K6.out).qdk (by have := HB.out; omega) _ _ _ _ _ _⟩
 ·obtain ⟨e0, e1, e2, e3, e4, e5⟩ := (B1.out.kept K4.out).c6
  obtain ⟨f0, f1, f2, f3, f4, f5⟩ := (B1.out.kept K4.out).f6
  go_wp2_with fail
  exact bodyPost_ret (v := qaC (zG, 4)) (by simp [results, results55, go_sem, e0, e1, e2, e3, e4, e5, qaC, zG, zD]) rfl ⟨by rw [HV.out]; rfl, (K1.out.trans' K4.out).qdk (by have := HB.out; omega) _ _ _ _ _ _⟩
theorem qkC (s : SqD) (w : World) (hs : sqB s = true) (hT : T32 w) :
  Calls prog 64 #[.agg #[.bool s.left.neg, .string s.left.n, .int .i64 s.left.e, .bool s.low.neg, .string s.low.n, .int .i64 s.low.e, .int .i64 s.e]] w fun en w' => en = .returned (qaC (qbu s)) ∧ Kept w w' := by
 have RT : Hid (∀ W, Calls prog 54 #[.agg #[.bool s.left.neg, .string s.left.n, .int .i64 s.left.e, .bool s.low.neg, .string s.low.n, .int .i64 s.low.e, .int .i64 s.e]] W fun en w' => en = .returned (.int .i64 0) ∧ Kept W w') := fun W => by
  have := qbr s W (qde hs)
  rwa [hs] at this
 have AT : Hid (∀ W, Kept w W → Calls prog 55 #[.agg #[.bool s.left.neg, .string s.left.n, .int .i64 s.left.e, .bool s.low.neg, .string s.low.n, .int .i64 s.low.e, .int .i64 s.e], .int .i64 1, .int .i64 1] W fun en w' => en = .returned (qaC (qbu s)) ∧ Kept W w') := fun W h => qbo s 1 1 W hs (by decide) (by decide) (hT.kept h)
 generalize qbu s = R at *
 obtain ⟨⟨a0, a1, a2⟩, ⟨a3, a4, a5⟩, a6⟩ := s
 simp only at RT AT ⊢
 clear hs hT
 go_enter func64, ntmps64
 go_upto_region 1 with fail
 obtain ⟨b, w1, hw, hb, B0, B1, K1, HB⟩ := qa7 w (LC3 a0 a1 a2 a3 a4 a5 a6) 26 ZL0 28
 rw [← hw, ← hb]; clear hw hb
 obtain ⟨c0, c1, c2, c3, c4, c5, c6⟩ := B0.out.c7
 go_wp2_with (first
  | (go_at_call 54; (with_reducible refine (RT.out _).mono ?_); rintro e w3 ⟨rfl, hk3⟩; have K3 := qh hk3; obtain ⟨c0, c1, c2, c3, c4, c5, c6⟩ := (B0.out.kept K3.out).c7)
  | (go_at_call 55; (with_reducible refine (AT.out _ (K1.out.trans' K3.out)).mono ?_); rintro e w4 ⟨rfl, hk4⟩; have K4 := qh (K3.out.trans' hk4); obtain ⟨e0, e1, e2, e3, e4, e5⟩ := (B1.out.kept K4.out).c6; obtain ⟨f0, f1, f2, f3, f4, f5⟩ := (B1.out.kept K4.out).f6))
 exact bodyPost_ret (v := qaC R) (by simp [results, results64, go_sem, e0, e1, e2, e3, e4, e5, qaC]) rfl ⟨rfl, (K1.out.trans' K4.out).qdk (by have := HB.out; omega) _ _ _ _ _ _⟩
end
theorem qer {P : Program} {W : World} {b n : Nat} {T : TypeId} {d : TypeDesc} {vs : List Value} (hb : Bx W b vs) (hn : vs.length = n) (hu : P.underlying T = some d) (hd : (match d with | .struct _ | .array _ _ => true | _ => false) = true) (hi : (P.info? T).map (·.size) = some n) :
  (loadVar T ⟨b, 0, none⟩).run P W = .ok (.agg vs.toArray) W := by
 obtain ⟨t, h⟩ := hb
 exact run_loadVar_row W b t T vs.toArray (0, 0) d h hu hd (by rw [hi]; simp [hn])
theorem Bx.row {W : World} {b : Nat} {old : List Value} (h : Bx W b old) (vs : List Value) : Bx (W.setRow b vs.toArray) b vs := by
 obtain ⟨t, h⟩ := h
 exact ⟨t, setRow_heap W b _ _ t _ h⟩
theorem Bx.off {W : World} {b g : Nat} {old : List Value} (h : Bx W b old) (hg : b ≠ g) (vs : List Value) : Bx (W.setRow g vs.toArray) b old := by
 obtain ⟨t, h⟩ := h
 exact ⟨t, by rw [setRow_other _ _ _ _ hg]; exact h⟩
theorem Kept.row {w W : World} {b : Nat} (h : Kept w W) (hb : w.heap.size ≤ b) (vs : List Value) : Kept w (W.setRow b vs.toArray) := by
 exact ⟨h.os, h.tape, h.output, by rw [setRow_size]; exact h.size, fun k hk => (setRow_other _ _ _ _ (by omega)).trans (h.block k hk)⟩
theorem qaK {P : Program} {o : Oper} {a : Act} {W : World} {K : Act → World → Prop} {Q : Exit → Act → World → Prop} (vs : List Value) (t : TypeId) (parts : Array (Nat × Operand)) (ho : o.op = .build t parts)
  (hv : P.built t (parts.map fun (i, x) => (i, a.eval x)).toList = some vs.toArray) (h : K (a.put o.dst (.agg vs.toArray)) W) : o.wp P a W K Q :=
 wp_build t parts ho (by rw [hv]; rfl) (by rw [hv]; exact h)
theorem qai {P : Program} {o : Oper} {a : Act} {W : World} {K : Act → World → Prop} {Q : Exit → Act → World → Prop} {b n : Nat} {T : TypeId} {d : TypeDesc} {vs : List Value} (x : Operand) (ho : o.op = .load T x) (hx : a.eval x = .pointer (some ⟨b, 0, none⟩)) (hb : Bx W b vs) (hn : vs.length = n) (hu : P.underlying T = some d) (hd : (match d with | .struct _ | .array _ _ => true | _ => false) = true) (hi : (P.info? T).map (·.size) = some n)
  (h : K (a.put o.dst (.agg vs.toArray)) W) : o.wp P a W K Q := by
 obtain ⟨t, hb⟩ := hb
 exact wp_load_row T x ho b hx t vs.toArray (0, 0) d hb hu hd (by rw [hi]; simp [hn]) h
theorem qaa {P : Program} {o : Oper} {a : Act} {W : World} {K : Act → World → Prop} {Q : Exit → Act → World → Prop} {b n : Nat} {T : TypeId} {old vs : List Value} (x y : Operand) (ho : o.op = .store T x y) (hx : a.eval x = .pointer (some ⟨b, 0, none⟩)) (hy : a.eval y = .agg vs.toArray) (hb : Bx W b old) (hn : vs.length = n) (hm : old.length = n) (hi : (P.info? T).map (·.size) = some n) (h1 : vs.all (·.oneCell') = true)
  (h : K (a.put o.dst undef) (W.setRow b vs.toArray)) : o.wp P a W K Q := by
 obtain ⟨t, hb⟩ := hb
 exact wp_store_row T x y ho b vs.toArray hx hy t old.toArray hb (by rw [hi]; simp [hn]) (by simp [hn, hm]) (by simpa using h1) h
theorem qjH {P : Program} {fn : Func} {W : World} {tm : Array Value} {t u b : Nat} {T : TypeId} {v x : Value} (hr : fn.results = #[.cell t T, .tmp u]) (h2 : tm.getD t undef = .pointer (some ⟨b, 0, none⟩)) (h3 : tm.getD u undef = x) (hl : (loadVar T ⟨b, 0, none⟩).run P W = .ok v W) :
  (results fn tm).run P W = .ok (.tuple #[v, x]) W := by
 rw [Array.getD_eq_getD_getElem?] at h2 h3
 unfold results
 rw [hr]
 simp only [Sem.run_bind]
 simp [Array.mapM_eq_mapM_toList, h2, h3, hl, asAddr]
theorem qbZ {P : Program} {fn : Func} {W : World} {tm : Array Value} {t u b n : Nat} {T : TypeId} {vs : List Value} {x : Value} {Q : Ending → World → Prop} {d : TypeDesc} (hr : fn.results = #[.cell t T, .tmp u]) (hu : P.underlying T = some d) (hd : (match d with | .struct _ | .array _ _ => true | _ => false) = true) (hi : (P.info? T).map (·.size) = some n)
  (h2 : tm.getD t undef = .pointer (some ⟨b, 0, none⟩)) (h3 : tm.getD u undef = x) (hb : Bx W b vs) (hn : vs.length = n) (hq : Q (.returned (.tuple #[.agg vs.toArray, x])) W) : bodyPost P fn Q Exit.ret { tmps := tm, defers := [] } W :=
 bodyPost_ret (v := .tuple #[.agg vs.toArray, x]) (qjH hr h2 h3 (qer hb hn hu hd hi)) rfl hq
section
set_option maxHeartbeats 6400000
set_option maxRecDepth 100000
theorem qbz {x y : DyD × Int} (hx : x.2 = 0) (hy : y.2 = 0) : qaF x y = (⟨x.1, y.1⟩, 0) := by unfold qaF; rw [if_pos ⟨hx, hy⟩]
theorem qdp {x y : DyD × Int} (h : ¬ x.2 = 0 ∨ ¬ y.2 = 0) : qaF x y = (zG, 4) := by
 unfold qaF; rw [if_neg]; rintro ⟨h1, h2⟩; rcases h with h | h
 ·exact h h1
 ·exact h h2
theorem qfd (d : DyD) (e : Int) : qaM d 2 (e - 1) = qaM d 1 e := by unfold qaM; rw [qou]
section
variable {s : SqD} (hs : sqB s = true)
include hs
theorem qhL : qaF (qaM s.left 0 (s.e - 1)) (qaM s.low 0 (s.e - 1)) = (⟨s.left, s.low⟩, 0) := by
 rw [qds _ (qas.1 hs).1, qds _ (qas.1 hs).2.1]; exact qbz rfl rfl
theorem qmX : qaF (qaM s.left 2 (s.e - 1)) (qaM s.low 0 (s.e - 1)) = qaF (qaN s) (s.low, 0) := by
 rw [qds _ (qas.1 hs).2.1, qfd]; rfl
theorem qoF : qaF (qaM s.left 0 (s.e - 1)) (qaM s.low 2 (s.e - 1)) = qaF (s.left, 0) (qaZ s) := by
 rw [qds _ (qas.1 hs).1, qfd]; rfl
theorem qoV : qaF (qaM s.left 2 (s.e - 1)) (qaM s.low 2 (s.e - 1)) = qaF (qaN s) (qaZ s) := by
 rw [qfd, qfd]; rfl
end
theorem qlo (s : SqD) (w : World) (hs : sqB s = true) (hT : T32 w) (hx : ¬ (qaN s).2 = 0) :
  Calls prog 22 #[.agg #[.bool s.left.neg, .string s.left.n, .int .i64 s.left.e, .bool s.low.neg, .string s.low.n, .int .i64 s.low.e, .int .i64 s.e]] w fun en w' => en = .returned (.tuple #[.agg ZL1.toArray, .int .i64 4]) ∧ Kept w w' := by
 have RT : Hid (∀ W, Calls prog 54 #[.agg #[.bool s.left.neg, .string s.left.n, .int .i64 s.left.e, .bool s.low.neg, .string s.low.n, .int .i64 s.low.e, .int .i64 s.e]] W fun en w' => en = .returned (.int .i64 0) ∧ Kept W w') := fun W => by
  have := qbr s W (qde hs)
  rwa [hs] at this
 obtain ⟨hs1, hs2, hs3, hs4⟩ := qas.1 hs
 have A0 : Hid (∀ W, Kept w W → Calls prog 55 #[.agg #[.bool s.left.neg, .string s.left.n, .int .i64 s.left.e, .bool s.low.neg, .string s.low.n, .int .i64 s.low.e, .int .i64 s.e], .int .i64 0, .int .i64 0] W fun en w' => en = .returned (qaC (⟨s.left, s.low⟩, 0)) ∧ Kept W w') := fun W h => by
  have := qbo s 0 0 W hs (by decide) (by decide) (hT.kept h)
  rwa [qhL hs] at this
 have A1 : Hid (∀ W, Kept w W → Calls prog 55 #[.agg #[.bool s.left.neg, .string s.left.n, .int .i64 s.left.e, .bool s.low.neg, .string s.low.n, .int .i64 s.low.e, .int .i64 s.e], .int .i64 2, .int .i64 0] W fun en w' => en = .returned (qaC (qaF (qaN s) (s.low, 0))) ∧ Kept W w') := fun W h => by
  have := qbo s 2 0 W hs (by decide) (by decide) (hT.kept h)
  rwa [qmX hs] at this
 rw [qdp (.inl hx)] at A1
 obtain ⟨⟨a0, a1, a2⟩, ⟨a3, a4, a5⟩, a6⟩ := s
 simp only at RT A0 A1 ⊢
 clear hs hs1 hs2 hs3 hs4 hT hx
 go_enter func22, ntmps22
 go_upto_region 1 with fail
 obtain ⟨b, w1, hw, hb, B0, B1, K1, HB⟩ := qa7 w (LC3 a0 a1 a2 a3 a4 a5 a6) 26 ZL1 64
 rw [← hw, ← hb]; clear hw hb
 obtain ⟨c0, c1, c2, c3, c4, c5, c6⟩ := B0.out.c7
 go_upto_region 4 with (go_at_call 54; (with_reducible refine (RT.out _).mono ?_); rintro e w3 ⟨rfl, hk3⟩)
 clear c0 c1 c2 c3 c4 c5 c6 RT
 have K4 := qh (Kept.new hk3 (.cells ZL1.toArray 64))
 have L4 := qh (Bx.new w3 ZL1 64 w3.heap.size rfl)
 obtain ⟨g, hg⟩ : ∃ g, g = w3.heap.size := ⟨_, rfl⟩
 rw [← hg] at L4 ⊢
 have HG := qh (show w1.heap.size ≤ g by have := hk3.size; omega)
 clear hg hk3
 generalize (w3.alloc (.cells ZL1.toArray 64)) = w4 at *
 go_wp2_with fail
 go_loopg [5, 6, 7, 12] 4 (fun gh v5 v6 v7 v12 wr => ∃ i : Nat, i + gh = 4 ∧ v12 = .int .i64 i ∧ Kept w1 wr ∧ ((i = 0 ∧ Bx wr g ZL1) ∨ (i = 1 ∧ Bx wr g (LC4 a0 a1 a2 a3 a4 a5 false ⟨#[]⟩ 0 false ⟨#[]⟩ 0 false ⟨#[]⟩ 0 false ⟨#[]⟩ 0 false ⟨#[]⟩ 0 false ⟨#[]⟩ 0))))
 case atStart => exact ⟨0, by omega, rfl, K4.out, .inl ⟨rfl, L4.out⟩⟩
 case round =>
  obtain ⟨i, hig, rfl, hk, hb⟩ := hrel
  have HK := qh hk
  have hgw : g < wr.heap.size := by rcases hb with ⟨-, hb⟩ | ⟨-, hb⟩ <;> exact hb.lt
  clear hk
  rcases hb with ⟨rfl, hb⟩ | ⟨rfl, hb⟩
  ·obtain rfl : gk = 4 := by omega
   have BL := qh hb
   clear hb
   obtain ⟨c0, c1, c2, c3, c4, c5, c6⟩ := (B0.out.kept HK.out).c7
   go_wp2_with (go_at_call 55; (with_reducible refine (A0.out _ (K1.out.trans' HK.out)).mono ?_); rintro e w5 ⟨rfl, hk5⟩; have B5 := qh (BL.out.kept hk5); have d0 := B5.out.c 0 rfl; have d1 := B5.out.c 1 rfl; have d2 := B5.out.c 2 rfl; have d3 := B5.out.c 3 rfl; have d4 := B5.out.c 4 rfl; have d5 := B5.out.c 5 rfl; have f0 := B5.out.f 0; have f1 := B5.out.f 1; have f2 := B5.out.f 2; have f3 := B5.out.f 3; have f4 := B5.out.f 4; have f5 := B5.out.f 5; have g5 := B5.out.lt; have K5 := qh (HK.out.trans' hk5); clear hk5 c0 c1 c2 c3 c4 c5 c6)
   go_roundg 3
   case measure => omega
   case rel =>
    refine ⟨1, by omega, by go_num, ?_, ?_⟩
    ·exact (Kept.new (Kept.set (Kept.set (Kept.set (Kept.set (Kept.set (Kept.set K5.out HG.out 0 _) HG.out 1 _) HG.out 2 _) HG.out 3 _) HG.out 4 _) HG.out 5 _) _)
    ·refine (.inr (⟨rfl, ?_⟩))
     exact (Bx.kept (Bx.set (Bx.set (Bx.set (Bx.set (Bx.set (Bx.set B5.out 0 _ (by simp)) 1 _ (by simp)) 2 _ (by simp)) 3 _ (by simp)) 4 _ (by simp)) 5 _ (by simp)) (Kept.new (Below.refl _ _) _))
  ·obtain rfl : gk = 3 := by omega
   have BL := qh hb
   clear hb
   obtain ⟨c0, c1, c2, c3, c4, c5, c6⟩ := (B0.out.kept HK.out).c7
   go_upto_region 9 with (go_at_call 55; (with_reducible refine (A1.out _ (K1.out.trans' HK.out)).mono ?_); rintro e w5 ⟨rfl, hk5⟩; have B5 := qh (BL.out.kept hk5); have K5 := qh (HK.out.trans' hk5); clear hk5 c0 c1 c2 c3 c4 c5 c6)
   replace K5 := qh (Kept.new K5.out (.cells (LC1 zG.re.neg zG.re.n zG.re.e zG.im.neg zG.im.n zG.im.e).toArray 28))
   generalize World.alloc w5 _ = w6 at *
   refine wp_region_list (wpList_plain rfl fun K hK => qaK ZL1 _ _ rfl (by kernel_rfl) (hK _ _ ?_))
   clear hK K
   refine wpList_plain rfl fun K hK => BigFrame.wp_move _ rfl (hK _ _ ?_)
   clear hK K
   refine wpList_plain rfl fun K hK => qaa (b := b + 1) (n := 24) _ _ rfl rfl rfl (B1.out.kept K5.out) rfl rfl (by kernel_rfl) rfl (hK _ _ ?_)
   clear hK K
   have B9 := qh ((B1.out.kept K5.out).row ZL1)
   have K9 := qh (Kept.row (K1.out.trans' K5.out) (show w.heap.size ≤ b + 1 by have := HB.out; omega) ZL1)
   generalize World.setRow _ _ _ = w9 at *
   go_wp2_with fail
   refine qbZ results22 underlying64 rfl (by kernel_rfl) rfl rfl B9.out rfl ⟨rfl, K9.out⟩
theorem qlU (s : SqD) (w : World) (hs : sqB s = true) (hT : T32 w) (hx : (qaN s).2 = 0) (hy : ¬ (qaZ s).2 = 0) :
  Calls prog 22 #[.agg #[.bool s.left.neg, .string s.left.n, .int .i64 s.left.e, .bool s.low.neg, .string s.low.n, .int .i64 s.low.e, .int .i64 s.e]] w fun en w' => en = .returned (.tuple #[.agg ZL1.toArray, .int .i64 4]) ∧ Kept w w' := by
 have RT : Hid (∀ W, Calls prog 54 #[.agg #[.bool s.left.neg, .string s.left.n, .int .i64 s.left.e, .bool s.low.neg, .string s.low.n, .int .i64 s.low.e, .int .i64 s.e]] W fun en w' => en = .returned (.int .i64 0) ∧ Kept W w') := fun W => by
  have := qbr s W (qde hs)
  rwa [hs] at this
 obtain ⟨hs1, hs2, hs3, hs4⟩ := qas.1 hs
 have A0 : Hid (∀ W, Kept w W → Calls prog 55 #[.agg #[.bool s.left.neg, .string s.left.n, .int .i64 s.left.e, .bool s.low.neg, .string s.low.n, .int .i64 s.low.e, .int .i64 s.e], .int .i64 0, .int .i64 0] W fun en w' => en = .returned (qaC (⟨s.left, s.low⟩, 0)) ∧ Kept W w') := fun W h => by
  have := qbo s 0 0 W hs (by decide) (by decide) (hT.kept h)
  rwa [qhL hs] at this
 have A1 : Hid (∀ W, Kept w W → Calls prog 55 #[.agg #[.bool s.left.neg, .string s.left.n, .int .i64 s.left.e, .bool s.low.neg, .string s.low.n, .int .i64 s.low.e, .int .i64 s.e], .int .i64 2, .int .i64 0] W fun en w' => en = .returned (qaC (qaF (qaN s) (s.low, 0))) ∧ Kept W w') := fun W h => by
  have := qbo s 2 0 W hs (by decide) (by decide) (hT.kept h)
  rwa [qmX hs] at this
 have A2 : Hid (∀ W, Kept w W → Calls prog 55 #[.agg #[.bool s.left.neg, .string s.left.n, .int .i64 s.left.e, .bool s.low.neg, .string s.low.n, .int .i64 s.low.e, .int .i64 s.e], .int .i64 0, .int .i64 2] W fun en w' => en = .returned (qaC (qaF (s.left, 0) (qaZ s))) ∧ Kept W w') := fun W h => by
  have := qbo s 0 2 W hs (by decide) (by decide) (hT.kept h)
  rwa [qoF hs] at this
 rw [qbz hx rfl] at A1
 rw [qdp (.inr hy)] at A2
 generalize (qaN s).1 = X at *
 obtain ⟨x0, x1, x2⟩ := X
 obtain ⟨⟨a0, a1, a2⟩, ⟨a3, a4, a5⟩, a6⟩ := s
 simp only at RT A0 A1 A2 ⊢
 clear hs hs1 hs2 hs3 hs4 hT hx hy
 go_enter func22, ntmps22
 go_upto_region 1 with fail
 obtain ⟨b, w1, hw, hb, B0, B1, K1, HB⟩ := qa7 w (LC3 a0 a1 a2 a3 a4 a5 a6) 26 ZL1 64
 rw [← hw, ← hb]; clear hw hb
 obtain ⟨c0, c1, c2, c3, c4, c5, c6⟩ := B0.out.c7
 go_upto_region 4 with (go_at_call 54; (with_reducible refine (RT.out _).mono ?_); rintro e w3 ⟨rfl, hk3⟩)
 clear c0 c1 c2 c3 c4 c5 c6 RT
 have K4 := qh (Kept.new hk3 (.cells ZL1.toArray 64))
 have L4 := qh (Bx.new w3 ZL1 64 w3.heap.size rfl)
 obtain ⟨g, hg⟩ : ∃ g, g = w3.heap.size := ⟨_, rfl⟩
 rw [← hg] at L4 ⊢
 have HG := qh (show w1.heap.size ≤ g by have := hk3.size; omega)
 clear hg hk3
 generalize (w3.alloc (.cells ZL1.toArray 64)) = w4 at *
 go_wp2_with fail
 go_loopg [5, 6, 7, 12] 4 (fun gh v5 v6 v7 v12 wr => ∃ i : Nat, i + gh = 4 ∧ v12 = .int .i64 i ∧ Kept w1 wr ∧ ((i = 0 ∧ Bx wr g ZL1) ∨ (i = 1 ∧ Bx wr g (LC4 a0 a1 a2 a3 a4 a5 false ⟨#[]⟩ 0 false ⟨#[]⟩ 0 false ⟨#[]⟩ 0 false ⟨#[]⟩ 0 false ⟨#[]⟩ 0 false ⟨#[]⟩ 0)) ∨ (i = 2 ∧ Bx wr g (LC4 a0 a1 a2 a3 a4 a5 x0 x1 x2 a3 a4 a5 false ⟨#[]⟩ 0 false ⟨#[]⟩ 0 false ⟨#[]⟩ 0 false ⟨#[]⟩ 0))))
 case atStart => exact ⟨0, by omega, rfl, K4.out, .inl ⟨rfl, L4.out⟩⟩
 case round =>
  obtain ⟨i, hig, rfl, hk, hb⟩ := hrel
  have HK := qh hk
  have hgw : g < wr.heap.size := by rcases hb with ⟨-, hb⟩ | ⟨-, hb⟩ | ⟨-, hb⟩ <;> exact hb.lt
  clear hk
  rcases hb with ⟨rfl, hb⟩ | ⟨rfl, hb⟩ | ⟨rfl, hb⟩
  ·obtain rfl : gk = 4 := by omega
   have BL := qh hb
   clear hb
   obtain ⟨c0, c1, c2, c3, c4, c5, c6⟩ := (B0.out.kept HK.out).c7
   go_wp2_with (go_at_call 55; (with_reducible refine (A0.out _ (K1.out.trans' HK.out)).mono ?_); rintro e w5 ⟨rfl, hk5⟩; have B5 := qh (BL.out.kept hk5); have d0 := B5.out.c 0 rfl; have d1 := B5.out.c 1 rfl; have d2 := B5.out.c 2 rfl; have d3 := B5.out.c 3 rfl; have d4 := B5.out.c 4 rfl; have d5 := B5.out.c 5 rfl; have f0 := B5.out.f 0; have f1 := B5.out.f 1; have f2 := B5.out.f 2; have f3 := B5.out.f 3; have f4 := B5.out.f 4; have f5 := B5.out.f 5; have g5 := B5.out.lt; have K5 := qh (HK.out.trans' hk5); clear hk5 c0 c1 c2 c3 c4 c5 c6)
   go_roundg 3
   case measure => omega
   case rel =>
    refine ⟨1, by omega, by go_num, ?_, ?_⟩
    ·exact (Kept.new (Kept.set (Kept.set (Kept.set (Kept.set (Kept.set (Kept.set K5.out HG.out 0 _) HG.out 1 _) HG.out 2 _) HG.out 3 _) HG.out 4 _) HG.out 5 _) _)
    ·refine (.inr (.inl ⟨rfl, ?_⟩))
     exact (Bx.kept (Bx.set (Bx.set (Bx.set (Bx.set (Bx.set (Bx.set B5.out 0 _ (by simp)) 1 _ (by simp)) 2 _ (by simp)) 3 _ (by simp)) 4 _ (by simp)) 5 _ (by simp)) (Kept.new (Below.refl _ _) _))
  ·obtain rfl : gk = 3 := by omega
   have BL := qh hb
   clear hb
   obtain ⟨c0, c1, c2, c3, c4, c5, c6⟩ := (B0.out.kept HK.out).c7
   go_wp2_with (go_at_call 55; (with_reducible refine (A1.out _ (K1.out.trans' HK.out)).mono ?_); rintro e w5 ⟨rfl, hk5⟩; have B5 := qh (BL.out.kept hk5); have d6 := B5.out.c 6 rfl; have d7 := B5.out.c 7 rfl; have d8 := B5.out.c 8 rfl; have d9 := B5.out.c 9 rfl; have d10 := B5.out.c 10 rfl; have d11 := B5.out.c 11 rfl; have f6 := B5.out.f 6; have f7 := B5.out.f 7; have f8 := B5.out.f 8; have f9 := B5.out.f 9; have f10 := B5.out.f 10; have f11 := B5.out.f 11; have g5 := B5.out.lt; have K5 := qh (HK.out.trans' hk5); clear hk5 c0 c1 c2 c3 c4 c5 c6)
   go_roundg 2
   case measure => omega
   case rel =>
    refine ⟨2, by omega, by go_num, ?_, ?_⟩
    ·exact (Kept.new (Kept.set (Kept.set (Kept.set (Kept.set (Kept.set (Kept.set K5.out HG.out 6 _) HG.out 7 _) HG.out 8 _) HG.out 9 _) HG.out 10 _) HG.out 11 _) _)
    ·refine (.inr (.inr (⟨rfl, ?_⟩)))
     exact (Bx.kept (Bx.set (Bx.set (Bx.set (Bx.set (Bx.set (Bx.set B5.out 6 _ (by simp)) 7 _ (by simp)) 8 _ (by simp)) 9 _ (by simp)) 10 _ (by simp)) 11 _ (by simp)) (Kept.new (Below.refl _ _) _))
  ·obtain rfl : gk = 2 := by omega
   have BL := qh hb
   clear hb
   obtain ⟨c0, c1, c2, c3, c4, c5, c6⟩ := (B0.out.kept HK.out).c7
   go_upto_region 9 with (go_at_call 55; (with_reducible refine (A2.out _ (K1.out.trans' HK.out)).mono ?_); rintro e w5 ⟨rfl, hk5⟩; have B5 := qh (BL.out.kept hk5); have K5 := qh (HK.out.trans' hk5); clear hk5 c0 c1 c2 c3 c4 c5 c6)
   replace K5 := qh (Kept.new K5.out (.cells (LC1 zG.re.neg zG.re.n zG.re.e zG.im.neg zG.im.n zG.im.e).toArray 28))
   generalize World.alloc w5 _ = w6 at *
   refine wp_region_list (wpList_plain rfl fun K hK => qaK ZL1 _ _ rfl (by kernel_rfl) (hK _ _ ?_))
   clear hK K
   refine wpList_plain rfl fun K hK => BigFrame.wp_move _ rfl (hK _ _ ?_)
   clear hK K
   refine wpList_plain rfl fun K hK => qaa (b := b + 1) (n := 24) _ _ rfl rfl rfl (B1.out.kept K5.out) rfl rfl (by kernel_rfl) rfl (hK _ _ ?_)
   clear hK K
   have B9 := qh ((B1.out.kept K5.out).row ZL1)
   have K9 := qh (Kept.row (K1.out.trans' K5.out) (show w.heap.size ≤ b + 1 by have := HB.out; omega) ZL1)
   generalize World.setRow _ _ _ = w9 at *
   go_wp2_with fail
   refine qbZ results22 underlying64 rfl (by kernel_rfl) rfl rfl B9.out rfl ⟨rfl, K9.out⟩
theorem qkl (s : SqD) (w : World) (hs : sqB s = true) (hT : T32 w) (hx : (qaN s).2 = 0) (hy : (qaZ s).2 = 0) :
  Calls prog 22 #[.agg #[.bool s.left.neg, .string s.left.n, .int .i64 s.left.e, .bool s.low.neg, .string s.low.n, .int .i64 s.low.e, .int .i64 s.e]] w fun en w' => en = .returned (.tuple #[.agg #[.bool s.left.neg, .string s.left.n, .int .i64 s.left.e, .bool s.low.neg, .string s.low.n, .int .i64 s.low.e, .bool (qaN s).1.neg, .string (qaN s).1.n, .int .i64 (qaN s).1.e, .bool s.low.neg, .string s.low.n, .int .i64 s.low.e, .bool s.left.neg, .string s.left.n, .int .i64 s.left.e, .bool (qaZ s).1.neg, .string (qaZ s).1.n, .int .i64 (qaZ s).1.e, .bool (qaN s).1.neg, .string (qaN s).1.n, .int .i64 (qaN s).1.e, .bool (qaZ s).1.neg, .string (qaZ s).1.n, .int .i64 (qaZ s).1.e], .int .i64 0]) ∧ Kept w w' := by
 have RT : Hid (∀ W, Calls prog 54 #[.agg #[.bool s.left.neg, .string s.left.n, .int .i64 s.left.e, .bool s.low.neg, .string s.low.n, .int .i64 s.low.e, .int .i64 s.e]] W fun en w' => en = .returned (.int .i64 0) ∧ Kept W w') := fun W => by
  have := qbr s W (qde hs)
  rwa [hs] at this
 obtain ⟨hs1, hs2, hs3, hs4⟩ := qas.1 hs
 have A0 : Hid (∀ W, Kept w W → Calls prog 55 #[.agg #[.bool s.left.neg, .string s.left.n, .int .i64 s.left.e, .bool s.low.neg, .string s.low.n, .int .i64 s.low.e, .int .i64 s.e], .int .i64 0, .int .i64 0] W fun en w' => en = .returned (qaC (⟨s.left, s.low⟩, 0)) ∧ Kept W w') := fun W h => by
  have := qbo s 0 0 W hs (by decide) (by decide) (hT.kept h)
  rwa [qhL hs] at this
 have A1 : Hid (∀ W, Kept w W → Calls prog 55 #[.agg #[.bool s.left.neg, .string s.left.n, .int .i64 s.left.e, .bool s.low.neg, .string s.low.n, .int .i64 s.low.e, .int .i64 s.e], .int .i64 2, .int .i64 0] W fun en w' => en = .returned (qaC (qaF (qaN s) (s.low, 0))) ∧ Kept W w') := fun W h => by
  have := qbo s 2 0 W hs (by decide) (by decide) (hT.kept h)
  rwa [qmX hs] at this
 have A2 : Hid (∀ W, Kept w W → Calls prog 55 #[.agg #[.bool s.left.neg, .string s.left.n, .int .i64 s.left.e, .bool s.low.neg, .string s.low.n, .int .i64 s.low.e, .int .i64 s.e], .int .i64 0, .int .i64 2] W fun en w' => en = .returned (qaC (qaF (s.left, 0) (qaZ s))) ∧ Kept W w') := fun W h => by
  have := qbo s 0 2 W hs (by decide) (by decide) (hT.kept h)
  rwa [qoF hs] at this
 have A3 : Hid (∀ W, Kept w W → Calls prog 55 #[.agg #[.bool s.left.neg, .string s.left.n, .int .i64 s.left.e, .bool s.low.neg, .string s.low.n, .int .i64 s.low.e, .int .i64 s.e], .int .i64 2, .int .i64 2] W fun en w' => en = .returned (qaC (qaF (qaN s) (qaZ s))) ∧ Kept W w') := fun W h => by
  have := qbo s 2 2 W hs (by decide) (by decide) (hT.kept h)
  rwa [qoV hs] at this
 rw [qbz hx rfl] at A1
 rw [qbz rfl hy] at A2
 rw [qbz hx hy] at A3
 generalize (qaN s).1 = X at *
 generalize (qaZ s).1 = Y at *
 obtain ⟨x0, x1, x2⟩ := X
 obtain ⟨y0, y1, y2⟩ := Y
 obtain ⟨⟨a0, a1, a2⟩, ⟨a3, a4, a5⟩, a6⟩ := s
 simp only at RT A0 A1 A2 A3 ⊢
 clear hs hs1 hs2 hs3 hs4 hT hx hy
 go_enter func22, ntmps22
 go_upto_region 1 with fail
 obtain ⟨b, w1, hw, hb, B0, B1, K1, HB⟩ := qa7 w (LC3 a0 a1 a2 a3 a4 a5 a6) 26 ZL1 64
 rw [← hw, ← hb]; clear hw hb
 obtain ⟨c0, c1, c2, c3, c4, c5, c6⟩ := B0.out.c7
 go_upto_region 4 with (go_at_call 54; (with_reducible refine (RT.out _).mono ?_); rintro e w3 ⟨rfl, hk3⟩)
 clear c0 c1 c2 c3 c4 c5 c6 RT
 have K4 := qh (Kept.new hk3 (.cells ZL1.toArray 64))
 have L4 := qh (Bx.new w3 ZL1 64 w3.heap.size rfl)
 obtain ⟨g, hg⟩ : ∃ g, g = w3.heap.size := ⟨_, rfl⟩
 rw [← hg] at L4 ⊢
 have HG := qh (show w1.heap.size ≤ g by have := hk3.size; omega)
 clear hg hk3
 generalize (w3.alloc (.cells ZL1.toArray 64)) = w4 at *
 go_wp2_with fail
 go_loopg [5, 6, 7, 12] 4 (fun gh v5 v6 v7 v12 wr => ∃ i : Nat, i + gh = 4 ∧ v12 = .int .i64 i ∧ Kept w1 wr ∧ ((i = 0 ∧ Bx wr g ZL1) ∨ (i = 1 ∧ Bx wr g (LC4 a0 a1 a2 a3 a4 a5 false ⟨#[]⟩ 0 false ⟨#[]⟩ 0 false ⟨#[]⟩ 0 false ⟨#[]⟩ 0 false ⟨#[]⟩ 0 false ⟨#[]⟩ 0)) ∨ (i = 2 ∧ Bx wr g (LC4 a0 a1 a2 a3 a4 a5 x0 x1 x2 a3 a4 a5 false ⟨#[]⟩ 0 false ⟨#[]⟩ 0 false ⟨#[]⟩ 0 false ⟨#[]⟩ 0)) ∨ (i = 3 ∧ Bx wr g (LC4 a0 a1 a2 a3 a4 a5 x0 x1 x2 a3 a4 a5 a0 a1 a2 y0 y1 y2 false ⟨#[]⟩ 0 false ⟨#[]⟩ 0)) ∨ (i = 4 ∧ Bx wr g (LC4 a0 a1 a2 a3 a4 a5 x0 x1 x2 a3 a4 a5 a0 a1 a2 y0 y1 y2 x0 x1 x2 y0 y1 y2))))
 case atStart => exact ⟨0, by omega, rfl, K4.out, .inl ⟨rfl, L4.out⟩⟩
 case round =>
  obtain ⟨i, hig, rfl, hk, hb⟩ := hrel
  have HK := qh hk
  have hgw : g < wr.heap.size := by rcases hb with ⟨-, hb⟩ | ⟨-, hb⟩ | ⟨-, hb⟩ | ⟨-, hb⟩ | ⟨-, hb⟩ <;> exact hb.lt
  clear hk
  rcases hb with ⟨rfl, hb⟩ | ⟨rfl, hb⟩ | ⟨rfl, hb⟩ | ⟨rfl, hb⟩ | ⟨rfl, hb⟩
  ·obtain rfl : gk = 4 := by omega
   have BL := qh hb
   clear hb
   obtain ⟨c0, c1, c2, c3, c4, c5, c6⟩ := (B0.out.kept HK.out).c7
   go_wp2_with (go_at_call 55; (with_reducible refine (A0.out _ (K1.out.trans' HK.out)).mono ?_); rintro e w5 ⟨rfl, hk5⟩; have B5 := qh (BL.out.kept hk5); have d0 := B5.out.c 0 rfl; have d1 := B5.out.c 1 rfl; have d2 := B5.out.c 2 rfl; have d3 := B5.out.c 3 rfl; have d4 := B5.out.c 4 rfl; have d5 := B5.out.c 5 rfl; have f0 := B5.out.f 0; have f1 := B5.out.f 1; have f2 := B5.out.f 2; have f3 := B5.out.f 3; have f4 := B5.out.f 4; have f5 := B5.out.f 5; have g5 := B5.out.lt; have K5 := qh (HK.out.trans' hk5); clear hk5 c0 c1 c2 c3 c4 c5 c6)
   go_roundg 3
   case measure => omega
   case rel =>
    refine ⟨1, by omega, by go_num, ?_, ?_⟩
    ·exact (Kept.new (Kept.set (Kept.set (Kept.set (Kept.set (Kept.set (Kept.set K5.out HG.out 0 _) HG.out 1 _) HG.out 2 _) HG.out 3 _) HG.out 4 _) HG.out 5 _) _)
    ·refine (.inr (.inl ⟨rfl, ?_⟩))
     exact (Bx.kept (Bx.set (Bx.set (Bx.set (Bx.set (Bx.set (Bx.set B5.out 0 _ (by simp)) 1 _ (by simp)) 2 _ (by simp)) 3 _ (by simp)) 4 _ (by simp)) 5 _ (by simp)) (Kept.new (Below.refl _ _) _))
  ·obtain rfl : gk = 3 := by omega
   have BL := qh hb
   clear hb
   obtain ⟨c0, c1, c2, c3, c4, c5, c6⟩ := (B0.out.kept HK.out).c7
   go_wp2_with (go_at_call 55; (with_reducible refine (A1.out _ (K1.out.trans' HK.out)).mono ?_); rintro e w5 ⟨rfl, hk5⟩; have B5 := qh (BL.out.kept hk5); have d6 := B5.out.c 6 rfl; have d7 := B5.out.c 7 rfl; have d8 := B5.out.c 8 rfl; have d9 := B5.out.c 9 rfl; have d10 := B5.out.c 10 rfl; have d11 := B5.out.c 11 rfl; have f6 := B5.out.f 6; have f7 := B5.out.f 7; have f8 := B5.out.f 8; have f9 := B5.out.f 9; have f10 := B5.out.f 10; have f11 := B5.out.f 11; have g5 := B5.out.lt; have K5 := qh (HK.out.trans' hk5); clear hk5 c0 c1 c2 c3 c4 c5 c6)
   go_roundg 2
   case measure => omega
   case rel =>
    refine ⟨2, by omega, by go_num, ?_, ?_⟩
    ·exact (Kept.new (Kept.set (Kept.set (Kept.set (Kept.set (Kept.set (Kept.set K5.out HG.out 6 _) HG.out 7 _) HG.out 8 _) HG.out 9 _) HG.out 10 _) HG.out 11 _) _)
    ·refine (.inr (.inr (.inl ⟨rfl, ?_⟩)))
     exact (Bx.kept (Bx.set (Bx.set (Bx.set (Bx.set (Bx.set (Bx.set B5.out 6 _ (by simp)) 7 _ (by simp)) 8 _ (by simp)) 9 _ (by simp)) 10 _ (by simp)) 11 _ (by simp)) (Kept.new (Below.refl _ _) _))
  ·obtain rfl : gk = 2 := by omega
   have BL := qh hb
   clear hb
   obtain ⟨c0, c1, c2, c3, c4, c5, c6⟩ := (B0.out.kept HK.out).c7
   go_wp2_with (go_at_call 55; (with_reducible refine (A2.out _ (K1.out.trans' HK.out)).mono ?_); rintro e w5 ⟨rfl, hk5⟩; have B5 := qh (BL.out.kept hk5); have d12 := B5.out.c 12 rfl; have d13 := B5.out.c 13 rfl; have d14 := B5.out.c 14 rfl; have d15 := B5.out.c 15 rfl; have d16 := B5.out.c 16 rfl; have d17 := B5.out.c 17 rfl; have f12 := B5.out.f 12; have f13 := B5.out.f 13; have f14 := B5.out.f 14; have f15 := B5.out.f 15; have f16 := B5.out.f 16; have f17 := B5.out.f 17; have g5 := B5.out.lt; have K5 := qh (HK.out.trans' hk5); clear hk5 c0 c1 c2 c3 c4 c5 c6)
   go_roundg 1
   case measure => omega
   case rel =>
    refine ⟨3, by omega, by go_num, ?_, ?_⟩
    ·exact (Kept.new (Kept.set (Kept.set (Kept.set (Kept.set (Kept.set (Kept.set K5.out HG.out 12 _) HG.out 13 _) HG.out 14 _) HG.out 15 _) HG.out 16 _) HG.out 17 _) _)
    ·refine (.inr (.inr (.inr (.inl ⟨rfl, ?_⟩))))
     exact (Bx.kept (Bx.set (Bx.set (Bx.set (Bx.set (Bx.set (Bx.set B5.out 12 _ (by simp)) 13 _ (by simp)) 14 _ (by simp)) 15 _ (by simp)) 16 _ (by simp)) 17 _ (by simp)) (Kept.new (Below.refl _ _) _))
  ·obtain rfl : gk = 1 := by omega
   have BL := qh hb
   clear hb
   obtain ⟨c0, c1, c2, c3, c4, c5, c6⟩ := (B0.out.kept HK.out).c7
   go_wp2_with (go_at_call 55; (with_reducible refine (A3.out _ (K1.out.trans' HK.out)).mono ?_); rintro e w5 ⟨rfl, hk5⟩; have B5 := qh (BL.out.kept hk5); have d18 := B5.out.c 18 rfl; have d19 := B5.out.c 19 rfl; have d20 := B5.out.c 20 rfl; have d21 := B5.out.c 21 rfl; have d22 := B5.out.c 22 rfl; have d23 := B5.out.c 23 rfl; have f18 := B5.out.f 18; have f19 := B5.out.f 19; have f20 := B5.out.f 20; have f21 := B5.out.f 21; have f22 := B5.out.f 22; have f23 := B5.out.f 23; have g5 := B5.out.lt; have K5 := qh (HK.out.trans' hk5); clear hk5 c0 c1 c2 c3 c4 c5 c6)
   go_roundg 0
   case measure => omega
   case rel =>
    refine ⟨4, by omega, by go_num, ?_, ?_⟩
    ·exact (Kept.new (Kept.set (Kept.set (Kept.set (Kept.set (Kept.set (Kept.set K5.out HG.out 18 _) HG.out 19 _) HG.out 20 _) HG.out 21 _) HG.out 22 _) HG.out 23 _) _)
    ·refine (.inr (.inr (.inr (.inr (⟨rfl, ?_⟩)))))
     exact (Bx.kept (Bx.set (Bx.set (Bx.set (Bx.set (Bx.set (Bx.set B5.out 18 _ (by simp)) 19 _ (by simp)) 20 _ (by simp)) 21 _ (by simp)) 22 _ (by simp)) 23 _ (by simp)) (Kept.new (Below.refl _ _) _))
  ·obtain rfl : gk = 0 := by omega
   have BL := qh hb
   clear hb
   go_upto_region 12 with fail
   refine wp_region_list (wpList_plain rfl fun K hK => qai (b := g) (n := 24) _ rfl rfl BL.out rfl underlying64 rfl (by kernel_rfl) (hK _ _ ?_))
   clear hK K
   refine wpList_plain rfl fun K hK => qaa (b := b + 1) (n := 24) _ _ rfl rfl rfl (B1.out.kept HK.out) rfl rfl (by kernel_rfl) rfl (hK _ _ ?_)
   clear hK K
   have B9 := qh ((B1.out.kept HK.out).row (LC4 a0 a1 a2 a3 a4 a5 x0 x1 x2 a3 a4 a5 a0 a1 a2 y0 y1 y2 x0 x1 x2 y0 y1 y2))
   have K9 := qh (Kept.row (K1.out.trans' HK.out) (show w.heap.size ≤ b + 1 by have := HB.out; omega) (LC4 a0 a1 a2 a3 a4 a5 x0 x1 x2 a3 a4 a5 a0 a1 a2 y0 y1 y2 x0 x1 x2 y0 y1 y2))
   generalize World.setRow _ _ _ = w9 at *
   go_wp2_with fail
   refine qbZ results22 underlying64 rfl (by kernel_rfl) rfl rfl B9.out rfl ⟨rfl, K9.out⟩
def qoJ (g : GsD) : List Value := (LC1 g.re.neg g.re.n g.re.e g.im.neg g.im.n g.im.e)
def qmG : Option (List GsD) → Value
 | none => .tuple #[.agg ZL1.toArray, .int .i64 4]
 | some l => .tuple #[.agg (l.flatMap qoJ).toArray, .int .i64 0]
theorem qdL (s : SqD) (w : World) (hs : sqB s = true) (hT : T32 w) :
  Calls prog 22 #[.agg #[.bool s.left.neg, .string s.left.n, .int .i64 s.left.e, .bool s.low.neg, .string s.low.n, .int .i64 s.low.e, .int .i64 s.e]] w fun en w' => en = .returned (qmG (qaA s)) ∧ Kept w w' := by
 by_cases hx : (qaN s).2 = 0
 ·by_cases hy : (qaZ s).2 = 0
  ·have h : qaA s = some [⟨s.left, s.low⟩, ⟨(qaN s).1, s.low⟩, ⟨s.left, (qaZ s).1⟩, ⟨(qaN s).1, (qaZ s).1⟩] := by unfold qaA; rw [if_pos ⟨hx, hy⟩]
   rw [h]
   exact qkl s w hs hT hx hy
  ·have h : qaA s = none := by unfold qaA; rw [if_neg (fun h => hy h.2)]
   rw [h]
   exact qlU s w hs hT hx hy
 ·have h : qaA s = none := by unfold qaA; rw [if_neg (fun h => hx h.1)]
  rw [h]
  exact qlo s w hs hT hx
end
section
set_option maxHeartbeats 6400000
set_option maxRecDepth 100000
theorem qnv (s : SqD) (g : GsD) (w : World) (hs : sqB s = true) (hg : gsB g = true) (hT : T32 w) (hc : qaA s = none) :
  Calls prog 71 #[.agg #[.bool s.left.neg, .string s.left.n, .int .i64 s.left.e, .bool s.low.neg, .string s.low.n, .int .i64 s.low.e, .int .i64 s.e], .agg #[.bool g.re.neg, .string g.re.n, .int .i64 g.re.e, .bool g.im.neg, .string g.im.n, .int .i64 g.im.e]] w fun en w' => en = .returned (.tuple #[.bool false, .int .i64 4]) ∧ Kept w w' := by
 have RT : Hid (∀ W, Calls prog 54 #[.agg #[.bool s.left.neg, .string s.left.n, .int .i64 s.left.e, .bool s.low.neg, .string s.low.n, .int .i64 s.low.e, .int .i64 s.e]] W fun en w' => en = .returned (.int .i64 0) ∧ Kept W w') := fun W => by
  have := qbr s W (qde hs)
  rwa [hs] at this
 have CK := qh (qcs g hg)
 have CO : Hid (∀ W, Kept w W → Calls prog 22 #[.agg #[.bool s.left.neg, .string s.left.n, .int .i64 s.left.e, .bool s.low.neg, .string s.low.n, .int .i64 s.low.e, .int .i64 s.e]] W fun en w' => en = .returned (.tuple #[.agg ZL1.toArray, .int .i64 4]) ∧ Kept W w') := fun W h => by
  have := qdL s W hs (hT.kept h)
  rwa [hc] at this
 go_enter func71, ntmps71
 go_upto_region 1 with fail
 obtain ⟨b, w1, hw, hb, B0, B1, K1, HB⟩ := qa7 w (LC3 s.left.neg s.left.n s.left.e s.low.neg s.low.n s.low.e s.e) 26 (LC1 g.re.neg g.re.n g.re.e g.im.neg g.im.n g.im.e) 28
 rw [← hw, ← hb]; clear hw hb
 obtain ⟨c0, c1, c2, c3, c4, c5, c6⟩ := B0.out.c7
 go_upto_region 3 with (go_at_call 54; (with_reducible refine (RT.out _).mono ?_); rintro e w3 ⟨rfl, hk3⟩)
 have K3 := qh (K1.out.trans' hk3)
 replace B0 := qh (B0.out.kept hk3)
 replace B1 := qh (B1.out.kept hk3)
 clear hk3 c0 c1 c2 c3 c4 c5 c6
 obtain ⟨g0, g1, g2, g3, g4, g5⟩ := B1.out.c6
 go_upto_region 5 with (go_at_call 18; (with_reducible refine (CK.out _).mono ?_); rintro e w4 ⟨rfl, hk4⟩)
 have K4 := qh (K3.out.trans' hk4)
 replace B0 := qh (B0.out.kept hk4)
 replace B1 := qh (B1.out.kept hk4)
 clear hk4 g0 g1 g2 g3 g4 g5
 obtain ⟨c0, c1, c2, c3, c4, c5, c6⟩ := B0.out.c7
 refine wp_region_list ?_
 refine wpList_plain rfl fun K hK => qai (b := b) (n := 7) _ rfl rfl B0.out rfl underlying26 rfl (by kernel_rfl) (hK _ _ ?_)
 clear hK K c0 c1 c2 c3 c4 c5 c6
 refine wpList_plain rfl fun K hK => ?_
 go_step
 (with_reducible refine (CO.out _ K4.out).mono ?_); rintro e w5 ⟨rfl, hk5⟩
 refine hK _ _ ?_
 clear hK K
 have K5 := qh (K4.out.trans' hk5)
 replace B0 := qh (B0.out.kept hk5)
 replace B1 := qh (B1.out.kept hk5)
 clear hk5
 refine wpList_plain rfl fun K hK => BigFrame.wp_move _ rfl (hK _ _ ?_)
 clear hK K
 refine wpList_plain rfl fun K hK => ?_
 go_step
 refine hK _ _ ?_
 clear hK K
 refine wpList_plain rfl fun K hK => ?_
 go_step
 refine hK _ _ ?_
 clear hK K
 refine wpList_plain rfl fun K hK => ?_
 go_step
 refine hK _ _ ?_
 clear hK K
 have HG := qh (show w.heap.size ≤ w5.heap.size from K5.out.size)
 have N0 := qh (show b ≠ w5.heap.size by have := B0.out.lt; omega)
 have N1 := qh (show b + 1 ≠ w5.heap.size by have := B1.out.lt; omega)
 have K6 := qh (Kept.new K5.out (.cells ZL1.toArray 64))
 replace B0 := qh (B0.out.kept (Kept.new (Below.refl _ _) (.cells ZL1.toArray 64)))
 replace B1 := qh (B1.out.kept (Kept.new (Below.refl _ _) (.cells ZL1.toArray 64)))
 have B2 := qh (Bx.new w5 ZL1 64 w5.heap.size rfl)
 clear K5
 obtain ⟨g9, hg9⟩ : ∃ g9, g9 = w5.heap.size := ⟨_, rfl⟩
 rw [← hg9] at B2 HG N0 N1 ⊢
 clear hg9
 generalize World.alloc w5 _ = w6 at *
 refine wpList_plain rfl fun K hK => qaa (b := g9) (n := 24) _ _ rfl rfl rfl B2.out rfl rfl (by kernel_rfl) rfl (hK _ _ ?_)
 clear hK K
 replace B0 := qh (B0.out.off N0.out ZL1)
 replace B1 := qh (B1.out.off N1.out ZL1)
 replace B2 := qh (B2.out.row ZL1)
 replace K6 := qh (Kept.row K6.out HG.out ZL1)
 generalize World.setRow w6 _ _ = w7 at *
 go_wp2_with fail
 exact bodyPost_ret (v := .tuple #[.bool false, .int .i64 4]) (by simp [results, results71, go_sem]) rfl ⟨rfl, K6.out⟩
theorem qma (s : SqD) (g : GsD) (w : World) (hs : sqB s = true) (hg : gsB g = true) (hT : T32 w) (X Y : DyD) (hX : qad X = true) (hY : qad Y = true) (hc : qaA s = some [⟨s.left, s.low⟩, ⟨X, s.low⟩, ⟨s.left, Y⟩, ⟨X, Y⟩]) :
  Calls prog 71 #[.agg #[.bool s.left.neg, .string s.left.n, .int .i64 s.left.e, .bool s.low.neg, .string s.low.n, .int .i64 s.low.e, .int .i64 s.e], .agg #[.bool g.re.neg, .string g.re.n, .int .i64 g.re.e, .bool g.im.neg, .string g.im.n, .int .i64 g.im.e]] w fun en w' => en = .returned (.tuple #[.bool (decide (qbx s.left g.re ≤ 0) && (decide (qbx g.re X ≤ 0) && (decide (qbx s.low g.im ≤ 0) && decide (qbx g.im Y ≤ 0)))), .int .i64 0]) ∧ Kept w w' := by
 have RT : Hid (∀ W, Calls prog 54 #[.agg #[.bool s.left.neg, .string s.left.n, .int .i64 s.left.e, .bool s.low.neg, .string s.low.n, .int .i64 s.low.e, .int .i64 s.e]] W fun en w' => en = .returned (.int .i64 0) ∧ Kept W w') := fun W => by
  have := qbr s W (qde hs)
  rwa [hs] at this
 have CK := qh (qcs g hg)
 have CO : Hid (∀ W, Kept w W → Calls prog 22 #[.agg #[.bool s.left.neg, .string s.left.n, .int .i64 s.left.e, .bool s.low.neg, .string s.low.n, .int .i64 s.low.e, .int .i64 s.e]] W fun en w' => en = .returned (.tuple #[.agg #[.bool s.left.neg, .string s.left.n, .int .i64 s.left.e, .bool s.low.neg, .string s.low.n, .int .i64 s.low.e, .bool X.neg, .string X.n, .int .i64 X.e, .bool s.low.neg, .string s.low.n, .int .i64 s.low.e, .bool s.left.neg, .string s.left.n, .int .i64 s.left.e, .bool Y.neg, .string Y.n, .int .i64 Y.e, .bool X.neg, .string X.n, .int .i64 X.e, .bool Y.neg, .string Y.n, .int .i64 Y.e], .int .i64 0]) ∧ Kept W w') := fun W h => by
  have := qdL s W hs (hT.kept h)
  rwa [hc] at this
 obtain ⟨hs1, hs2, hs3, hs4⟩ := qas.1 hs
 obtain ⟨hg1, hg2⟩ := qam.1 hg
 have D1 := qh (fun W => qdr s.left g.re W hs1 hg1)
 have D2 := qh (fun W => qdr g.re X W hg1 hX)
 have D3 := qh (fun W => qdr s.low g.im W hs2 hg2)
 have D4 := qh (fun W => qdr g.im Y W hg2 hY)
 clear hs hg hT hc hs1 hs2 hs3 hs4 hg1 hg2
 generalize qbx s.left g.re = n1 at *
 generalize qbx g.re X = n2 at *
 generalize qbx s.low g.im = n3 at *
 generalize qbx g.im Y = n4 at *
 obtain ⟨R, hR⟩ : ∃ R, R = (decide (n1 ≤ 0) && (decide (n2 ≤ 0) && (decide (n3 ≤ 0) && decide (n4 ≤ 0)))) := ⟨_, rfl⟩
 rw [← hR]
 have HR := qh hR
 clear hR
 go_enter func71, ntmps71
 go_upto_region 1 with fail
 obtain ⟨b, w1, hw, hb, B0, B1, K1, HB⟩ := qa7 w (LC3 s.left.neg s.left.n s.left.e s.low.neg s.low.n s.low.e s.e) 26 (LC1 g.re.neg g.re.n g.re.e g.im.neg g.im.n g.im.e) 28
 rw [← hw, ← hb]; clear hw hb
 obtain ⟨c0, c1, c2, c3, c4, c5, c6⟩ := B0.out.c7
 go_upto_region 3 with (go_at_call 54; (with_reducible refine (RT.out _).mono ?_); rintro e w3 ⟨rfl, hk3⟩)
 have K3 := qh (K1.out.trans' hk3)
 replace B0 := qh (B0.out.kept hk3)
 replace B1 := qh (B1.out.kept hk3)
 clear hk3 c0 c1 c2 c3 c4 c5 c6
 obtain ⟨g0, g1, g2, g3, g4, g5⟩ := B1.out.c6
 go_upto_region 5 with (go_at_call 18; (with_reducible refine (CK.out _).mono ?_); rintro e w4 ⟨rfl, hk4⟩)
 have K4 := qh (K3.out.trans' hk4)
 replace B0 := qh (B0.out.kept hk4)
 replace B1 := qh (B1.out.kept hk4)
 clear hk4 g0 g1 g2 g3 g4 g5
 obtain ⟨c0, c1, c2, c3, c4, c5, c6⟩ := B0.out.c7
 refine wp_region_list ?_
 refine wpList_plain rfl fun K hK => qai (b := b) (n := 7) _ rfl rfl B0.out rfl underlying26 rfl (by kernel_rfl) (hK _ _ ?_)
 clear hK K c0 c1 c2 c3 c4 c5 c6
 refine wpList_plain rfl fun K hK => ?_
 go_step
 (with_reducible refine (CO.out _ K4.out).mono ?_); rintro e w5 ⟨rfl, hk5⟩
 refine hK _ _ ?_
 clear hK K
 have K5 := qh (K4.out.trans' hk5)
 replace B0 := qh (B0.out.kept hk5)
 replace B1 := qh (B1.out.kept hk5)
 clear hk5
 refine wpList_plain rfl fun K hK => BigFrame.wp_move _ rfl (hK _ _ ?_)
 clear hK K
 refine wpList_plain rfl fun K hK => ?_
 go_step
 refine hK _ _ ?_
 clear hK K
 refine wpList_plain rfl fun K hK => ?_
 go_step
 refine hK _ _ ?_
 clear hK K
 refine wpList_plain rfl fun K hK => ?_
 go_step
 refine hK _ _ ?_
 clear hK K
 have HG := qh (show w.heap.size ≤ w5.heap.size from K5.out.size)
 have N0 := qh (show b ≠ w5.heap.size by have := B0.out.lt; omega)
 have N1 := qh (show b + 1 ≠ w5.heap.size by have := B1.out.lt; omega)
 have K6 := qh (Kept.new K5.out (.cells ZL1.toArray 64))
 replace B0 := qh (B0.out.kept (Kept.new (Below.refl _ _) (.cells ZL1.toArray 64)))
 replace B1 := qh (B1.out.kept (Kept.new (Below.refl _ _) (.cells ZL1.toArray 64)))
 have B2 := qh (Bx.new w5 ZL1 64 w5.heap.size rfl)
 clear K5
 obtain ⟨g9, hg9⟩ : ∃ g9, g9 = w5.heap.size := ⟨_, rfl⟩
 rw [← hg9] at B2 HG N0 N1 ⊢
 clear hg9
 generalize World.alloc w5 _ = w6 at *
 refine wpList_plain rfl fun K hK => qaa (b := g9) (n := 24) _ _ rfl rfl rfl B2.out rfl rfl (by kernel_rfl) rfl (hK _ _ ?_)
 clear hK K
 replace B0 := qh (B0.out.off N0.out (LC4 s.left.neg s.left.n s.left.e s.low.neg s.low.n s.low.e X.neg X.n X.e s.low.neg s.low.n s.low.e s.left.neg s.left.n s.left.e Y.neg Y.n Y.e X.neg X.n X.e Y.neg Y.n Y.e))
 replace B1 := qh (B1.out.off N1.out (LC4 s.left.neg s.left.n s.left.e s.low.neg s.low.n s.low.e X.neg X.n X.e s.low.neg s.low.n s.low.e s.left.neg s.left.n s.left.e Y.neg Y.n Y.e X.neg X.n X.e Y.neg Y.n Y.e))
 replace B2 := qh (B2.out.row (LC4 s.left.neg s.left.n s.left.e s.low.neg s.low.n s.low.e X.neg X.n X.e s.low.neg s.low.n s.low.e s.left.neg s.left.n s.left.e Y.neg Y.n Y.e X.neg X.n X.e Y.neg Y.n Y.e))
 replace K6 := qh (Kept.row K6.out HG.out (LC4 s.left.neg s.left.n s.left.e s.low.neg s.low.n s.low.e X.neg X.n X.e s.low.neg s.low.n s.low.e s.left.neg s.left.n s.left.e Y.neg Y.n Y.e X.neg X.n X.e Y.neg Y.n Y.e))
 generalize World.setRow w6 _ _ = w7 at *
 obtain ⟨c0, c1, c2, c3, c4, c5, c6⟩ := B0.out.c7
 obtain ⟨g0, g1, g2, g3, g4, g5⟩ := B1.out.c6
 go_upto_region 9 with (go_at_call 69; (with_reducible refine (D1.out _).mono ?_); rintro e w8 ⟨rfl, hk8⟩)
 have H1 := qh hk8
 replace B0 := qh (B0.out.kept hk8)
 replace B1 := qh (B1.out.kept hk8)
 replace B2 := qh (B2.out.kept hk8)
 replace K6 := qh (K6.out.trans' hk8)
 clear hk8 H1 c0 c1 c2 c3 c4 c5 c6 g0 g1 g2 g3 g4 g5
 obtain ⟨g0, g1, g2, g3, g4, g5⟩ := B1.out.c6
 have d18 := B2.out.c 18 rfl
 have d19 := B2.out.c 19 rfl
 have d20 := B2.out.c 20 rfl
 go_upto_region 10 with (go_at_call 69; (with_reducible refine (D2.out _).mono ?_); rintro e w8 ⟨rfl, hk8⟩)
 have H2 := qh hk8
 replace B0 := qh (B0.out.kept hk8)
 replace B1 := qh (B1.out.kept hk8)
 replace B2 := qh (B2.out.kept hk8)
 replace K6 := qh (K6.out.trans' hk8)
 clear hk8 H2 g0 g1 g2 g3 g4 g5 d18 d19 d20
 obtain ⟨c0, c1, c2, c3, c4, c5, c6⟩ := B0.out.c7
 obtain ⟨g0, g1, g2, g3, g4, g5⟩ := B1.out.c6
 go_upto_region 11 with (go_at_call 69; (with_reducible refine (D3.out _).mono ?_); rintro e w8 ⟨rfl, hk8⟩)
 have H3 := qh hk8
 replace B0 := qh (B0.out.kept hk8)
 replace B1 := qh (B1.out.kept hk8)
 replace B2 := qh (B2.out.kept hk8)
 replace K6 := qh (K6.out.trans' hk8)
 clear hk8 H3 c0 c1 c2 c3 c4 c5 c6 g0 g1 g2 g3 g4 g5
 obtain ⟨g0, g1, g2, g3, g4, g5⟩ := B1.out.c6
 have d21 := B2.out.c 21 rfl
 have d22 := B2.out.c 22 rfl
 have d23 := B2.out.c 23 rfl
 go_upto_region 12 with (go_at_call 69; (with_reducible refine (D4.out _).mono ?_); rintro e w8 ⟨rfl, hk8⟩)
 have H4 := qh hk8
 replace B0 := qh (B0.out.kept hk8)
 replace B1 := qh (B1.out.kept hk8)
 replace B2 := qh (B2.out.kept hk8)
 replace K6 := qh (K6.out.trans' hk8)
 clear hk8 H4 g0 g1 g2 g3 g4 g5 d21 d22 d23
 clear RT CK CO D1 D2 D3 D4 B0 B1 B2 K1 K3 K4
 by_cases h1 : n1 ≤ 0
 ·by_cases h2 : n2 ≤ 0
  ·by_cases h3 : n3 ≤ 0
   ·go_wp2_with fail
    exact bodyPost_ret (v := .tuple #[.bool (decide (n4 ≤ 0)), .int .i64 0]) (by simp [results, results71, go_sem]) rfl ⟨by rw [HR.out, decide_eq_true h1, decide_eq_true h2, decide_eq_true h3]; rfl, K6.out⟩
   ·go_wp2_with fail
    exact bodyPost_ret (v := .tuple #[.bool false, .int .i64 0]) (by simp [results, results71, go_sem]) rfl ⟨by rw [HR.out, decide_eq_true h1, decide_eq_true h2, decide_eq_false (show ¬ n3 ≤ 0 by omega)]; rfl, K6.out⟩
  ·go_wp2_with fail
   exact bodyPost_ret (v := .tuple #[.bool false, .int .i64 0]) (by simp [results, results71, go_sem]) rfl ⟨by rw [HR.out, decide_eq_true h1, decide_eq_false (show ¬ n2 ≤ 0 by omega)]; rfl, K6.out⟩
 ·go_wp2_with fail
  exact bodyPost_ret (v := .tuple #[.bool false, .int .i64 0]) (by simp [results, results71, go_sem]) rfl ⟨by rw [HR.out, decide_eq_false (show ¬ n1 ≤ 0 by omega)]; rfl, K6.out⟩
def ql : Option Bool → Value
 | none => .tuple #[.bool false, .int .i64 4]
 | some b => .tuple #[.bool b, .int .i64 0]
theorem qlv (s : SqD) (g : GsD) (w : World) (hs : sqB s = true) (hg : gsB g = true) (hT : T32 w) :
  Calls prog 71 #[.agg #[.bool s.left.neg, .string s.left.n, .int .i64 s.left.e, .bool s.low.neg, .string s.low.n, .int .i64 s.low.e, .int .i64 s.e], .agg #[.bool g.re.neg, .string g.re.n, .int .i64 g.re.e, .bool g.im.neg, .string g.im.n, .int .i64 g.im.e]] w fun en w' => en = .returned (ql (qcg s g)) ∧ Kept w w' := by
 by_cases h : (qaN s).2 = 0 ∧ (qaZ s).2 = 0
 ·have hc : qaA s = some [⟨s.left, s.low⟩, ⟨(qaN s).1, s.low⟩, ⟨s.left, (qaZ s).1⟩, ⟨(qaN s).1, (qaZ s).1⟩] := by unfold qaA; rw [if_pos h]
  have hh : qcg s g = some (decide (qbx s.left g.re ≤ 0) && (decide (qbx g.re (qaN s).1 ≤ 0) && (decide (qbx s.low g.im ≤ 0) && decide (qbx g.im (qaZ s).1 ≤ 0)))) := by unfold qcg; rw [if_pos h]
  rw [hh]
  exact qma s g w hs hg hT _ _ (qce _ _ (qas.1 hs).1) (qce _ _ (qas.1 hs).2.1) hc
 ·have hc : qaA s = none := by unfold qaA; rw [if_neg h]
  have hh : qcg s g = none := by unfold qcg; rw [if_neg h]
  rw [hh]
  exact qnv s g w hs hg hT hc
end
section
set_option maxHeartbeats 3200000
set_option maxRecDepth 100000
attribute [local go_sem] run_float_arith qaI qaJ qau qah qae
theorem qms (n : Int) (w : World) : Calls prog 74 #[.int .i64 n] w fun e w' => e = .returned (.bool (decide (-4096 ≤ n) && decide (n ≤ 4096))) ∧ w' = w := by
 obtain ⟨R, hR⟩ : ∃ R, R = (decide (-4096 ≤ n) && decide (n ≤ 4096)) := ⟨_, rfl⟩
 rw [← hR]
 have HR := qh hR
 clear hR
 by_cases h1 : -4096 ≤ n
 ·by_cases h2 : n ≤ 4096
  ·have H := qh (And.intro h1 h2)
   go_enter func74, ntmps74
   go_wp2_with fail
   go_ret
   exact ⟨qby (by rw [HR.out, decide_eq_true H.out.1, decide_eq_true H.out.2]; rfl), rfl⟩
  ·have H := qh (And.intro h1 h2)
   go_enter func74, ntmps74
   go_wp2_with fail
   go_ret
   exact ⟨qby (by rw [HR.out, decide_eq_true H.out.1, decide_eq_false (show ¬ n ≤ 4096 by have := H.out.2; omega)]; rfl), rfl⟩
 ·have H := qh h1
  go_enter func74, ntmps74
  go_wp2_with fail
  go_ret
  exact ⟨qby (by rw [HR.out, decide_eq_false (show ¬ -4096 ≤ n by have := H.out; omega)]; rfl), rfl⟩
theorem qjX (s : SqD) (w : World) (hs : s.left.ok ∧ s.low.ok) :
  Calls prog 40 #[.agg #[.bool s.left.neg, .string s.left.n, .int .i64 s.left.e, .bool s.low.neg, .string s.low.n, .int .i64 s.low.e, .int .i64 s.e]] w fun e w' => e = .returned (.bool (sqB s)) ∧ Kept w w' := by
 have CP := qh (fun (W : World) => qdW s.left W hs.1)
 have CQ := qh (fun (W : World) => qdW s.low W hs.2)
 have CS := qh (fun (W : World) => qms s.e W)
 unfold sqB
 generalize qad s.left = bp at *
 generalize qad s.low = bq at *
 generalize (decide (-4096 ≤ s.e) && decide (s.e ≤ 4096)) = br at *
 obtain ⟨⟨a0, a1, a2⟩, ⟨a3, a4, a5⟩, a6⟩ := s
 simp only at CP CQ CS ⊢
 clear hs
 cases bp with
 | false =>
  go_enter func40, ntmps40
  go_upto_region 1 with fail
  obtain ⟨b, w1, hw, hb, B0, K1, HB⟩ := qa4 w (LC3 a0 a1 a2 a3 a4 a5 a6) 26
  rw [← hw, ← hb]; clear hw hb
  obtain ⟨c0, c1, c2, c3, c4, c5, c6⟩ := B0.out.c7
  go_wp2_with (go_at_call 73; (with_reducible refine (CP.out _).mono ?_); rintro e w2 ⟨rfl, hk2⟩)
  go_ret
  exact ⟨rfl, K1.out.trans' hk2⟩
 | true =>
  cases bq with
  | false =>
   go_enter func40, ntmps40
   go_upto_region 1 with fail
   obtain ⟨b, w1, hw, hb, B0, K1, HB⟩ := qa4 w (LC3 a0 a1 a2 a3 a4 a5 a6) 26
   rw [← hw, ← hb]; clear hw hb
   obtain ⟨c0, c1, c2, c3, c4, c5, c6⟩ := B0.out.c7
   go_wp2_with fail
   (with_reducible refine (CP.out _).mono ?_)
   rintro e w2 ⟨rfl, hk2⟩
   obtain ⟨c0, c1, c2, c3, c4, c5, c6⟩ := (B0.out.kept hk2).c7
   have K2 := qh hk2
   clear hk2 CP
   go_wp2_with fail
   (with_reducible refine (CQ.out _).mono ?_)
   rintro e w3 ⟨rfl, hk3⟩
   go_wp2_with fail
   go_ret
   exact ⟨rfl, (K1.out.trans' K2.out).trans' hk3⟩
  | true =>
   go_enter func40, ntmps40
   go_upto_region 1 with fail
   obtain ⟨b, w1, hw, hb, B0, K1, HB⟩ := qa4 w (LC3 a0 a1 a2 a3 a4 a5 a6) 26
   rw [← hw, ← hb]; clear hw hb
   obtain ⟨c0, c1, c2, c3, c4, c5, c6⟩ := B0.out.c7
   go_wp2_with fail
   (with_reducible refine (CP.out _).mono ?_)
   rintro e w2 ⟨rfl, hk2⟩
   obtain ⟨c0, c1, c2, c3, c4, c5, c6⟩ := (B0.out.kept hk2).c7
   have K2 := qh hk2
   clear hk2 CP
   go_wp2_with fail
   (with_reducible refine (CQ.out _).mono ?_)
   rintro e w3 ⟨rfl, hk3⟩
   obtain ⟨c0, c1, c2, c3, c4, c5, c6⟩ := ((B0.out.kept K2.out).kept hk3).c7
   have K3 := qh hk3
   clear hk3 CQ
   go_wp2_with fail
   (with_reducible refine (CS.out _).mono ?_)
   rintro e w4 ⟨rfl, hw⟩
   replace hw := hw.symm
   subst hw
   go_wp2_with fail
   go_ret
   exact ⟨rfl, (K1.out.trans' K2.out).trans' K3.out⟩
theorem qgq (d : DyD) (n e : Int) (w : World) (hd : qad d = true) (hn : n.natAbs < 1000000) (he : e.natAbs ≤ 1000000) :
  Calls prog 117 #[.agg #[.bool d.neg, .string d.n, .int .i64 d.e], .int .i64 n, .int .i64 e] w fun en w' => en = .returned (qaf (qaM d n e)) ∧ Kept w w' := by
 have OF := qh (fun W => qnp n e W (by omega) (by omega) (by omega))
 have ho : qad (qbh n e).1 = true := qeF _ _
 unfold qaM ofS
 generalize qbh n e = F at *
 have ADD := qh (fun W => qdX d F.1 W hd ho)
 generalize qaS d F.1 = R at *
 obtain ⟨⟨f0, f1, f2⟩, f3⟩ := F
 obtain ⟨d0, d1, d2⟩ := d
 simp only at OF ADD ⊢
 have hcv : IntKind.i64.wrap n = n := IntWalk.i64_in _ (by omega)
 clear hd ho he
 go_enter func117, ntmps117
 go_upto_region 1 with fail
 obtain ⟨b, w1, hw, hb, B0, B1, K1, HB⟩ := qa7 w (LC0 d0 d1 d2) 24 (LC0 false ⟨#[]⟩ 0) 24
 rw [← hw, ← hb]; clear hw hb
 go_upto_region 2 with (go_at_call 138; (with_reducible refine (OF.out _).mono ?_); rintro e w3 ⟨rfl, hk3⟩)
 have K4 := qh (Kept.new hk3 (.cells (LC0 f0 f1 f2).toArray 24))
 have B3 := qh (Bx.new w3 (LC0 f0 f1 f2) 24 w3.heap.size rfl)
 obtain ⟨g, hg⟩ : ∃ g, g = w3.heap.size := ⟨_, rfl⟩
 rw [← hg] at B3 ⊢
 clear hg hk3
 generalize (w3.alloc (.cells (LC0 f0 f1 f2).toArray 24)) = w4 at *
 obtain ⟨c0, c1, c2⟩ := (B0.out.kept K4.out).c3
 obtain ⟨e0, e1, e2⟩ := B3.out.c3
 go_wp2_with (go_at_call 91; (with_reducible refine (ADD.out _).mono ?_); rintro e w5 ⟨rfl, hk5⟩; have K5 := qh (K4.out.trans' hk5); obtain ⟨r0, r1, r2⟩ := (B1.out.kept K5.out).c3; obtain ⟨t0, t1, t2⟩ := (B1.out.kept K5.out).f3)
 exact bodyPost_ret (v := qaf R) (by simp [results, results117, go_sem, r0, r1, r2, qaf]) rfl ⟨rfl, (K1.out.trans' K5.out).qaL (by have := HB.out; omega) _ _ _⟩
theorem qep (s : SqD) (w : World) (hs : sqB s = true) :
  Calls prog 76 #[.agg #[.bool s.left.neg, .string s.left.n, .int .i64 s.left.e, .bool s.low.neg, .string s.low.n, .int .i64 s.low.e, .int .i64 s.e]] w fun en w' => en = .returned (qaC (qbu s)) ∧ Kept w w' := by
 obtain ⟨h1, h2, h3, h4⟩ := qas.1 hs
 have M1 := qh (fun W => qgq s.left 1 (s.e - 1) W h1 (by omega) (by omega))
 have M2 := qh (fun W => qgq s.low 1 (s.e - 1) W h2 (by omega) (by omega))
 unfold qbu
 generalize qaM s.left 1 (s.e - 1) = R at *
 generalize qaM s.low 1 (s.e - 1) = Q at *
 obtain ⟨v, hv⟩ : ∃ v : GsD × Int, v = qaF R Q := ⟨_, rfl⟩
 rw [← hv]
 have HV := qh hv
 clear hv
 obtain ⟨⟨a0, a1, a2⟩, ⟨a3, a4, a5⟩, a6⟩ := s
 obtain ⟨⟨r0, r1, r2⟩, r3⟩ := R
 obtain ⟨⟨q0, q1, q2⟩, q3⟩ := Q
 simp only at M1 M2 h3 h4 ⊢
 clear hs h1 h2
 go_enter func76, ntmps76
 go_upto_region 1 with fail
 obtain ⟨b, w1, hw, hb, B0, B1, K1, HB⟩ := qa7 w (LC3 a0 a1 a2 a3 a4 a5 a6) 26 ZL0 28
 rw [← hw, ← hb]; clear hw hb
 obtain ⟨c0, c1, c2, c3, c4, c5, c6⟩ := B0.out.c7
 go_upto_region 2 with (go_at_call 117; (with_reducible refine (M1.out _).mono ?_); rintro e w3 ⟨rfl, hk3⟩)
 have K4 := qh (Kept.new hk3 (.cells (LC0 r0 r1 r2).toArray 24))
 have B2 := qh (Bx.new w3 (LC0 r0 r1 r2) 24 w3.heap.size rfl)
 obtain ⟨g, hg⟩ : ∃ g, g = w3.heap.size := ⟨_, rfl⟩
 rw [← hg] at B2 ⊢
 clear hg hk3
 generalize (w3.alloc (.cells (LC0 r0 r1 r2).toArray 24)) = w4 at *
 clear c0 c1 c2 c3 c4 c5 c6
 obtain ⟨c0, c1, c2, c3, c4, c5, c6⟩ := (B0.out.kept K4.out).c7
 go_upto_region 3 with (go_at_call 117; (with_reducible refine (M2.out _).mono ?_); rintro e w5 ⟨rfl, hk5⟩)
 have K6 := qh (Kept.new (K4.out.trans' hk5) (.cells (LC0 q0 q1 q2).toArray 24))
 have B3 := qh (Bx.new w5 (LC0 q0 q1 q2) 24 w5.heap.size rfl)
 replace B2 := qh ((B2.out.kept hk5).kept (Kept.new (Below.refl _ _) (.cells (LC0 q0 q1 q2).toArray 24)))
 obtain ⟨g2, hg⟩ : ∃ g, g = w5.heap.size := ⟨_, rfl⟩
 rw [← hg] at B3 ⊢
 clear hg hk5
 generalize (w5.alloc (.cells (LC0 q0 q1 q2).toArray 24)) = w6 at *
 clear c0 c1 c2 c3 c4 c5 c6 M1 M2
 obtain ⟨c0, c1, c2⟩ := B2.out.c3
 obtain ⟨d0, d1, d2⟩ := B3.out.c3
 obtain ⟨e0, e1, e2, e3, e4, e5⟩ := (B1.out.kept K6.out).c6
 obtain ⟨f0, f1, f2, f3, f4, f5⟩ := (B1.out.kept K6.out).f6
 by_cases h1 : r3 = 0
 ·by_cases h2 : q3 = 0
  ·subst h1 h2
   go_wp2_with fail
   exact bodyPost_ret (v := qaC (⟨⟨r0, r1, r2⟩, ⟨q0, q1, q2⟩⟩, 0)) (by simp [results, results76, go_sem, e0, e1, e2, e3, e4, e5, qaC]) rfl ⟨by rw [HV.out]; rfl, (K1.out.trans' K6.out).qdk (by have := HB.out; omega) _ _ _ _ _ _⟩
  ·subst h1
   have HQ := qh h2
   go_wp2_with fail
   exact bodyPost_ret (v := qaC (zG, 4)) (by simp [results, results76, go_sem, e0, e1, e2, e3, e4, e5, qaC, zG, zD]) rfl ⟨by rw [HV.out]; unfold qaF; rw [if_neg (fun h => HQ.out h.2)], (K1.out.trans' K6.out).qdk (by have := HB.out; omega) _ _ _ _ _ _⟩
 ·have HR := qh h1
  go_wp2_with fail
  exact bodyPost_ret (v := qaC (zG, 4)) (by simp [results, results76, go_sem, e0, e1, e2, e3, e4, e5, qaC, zG, zD]) rfl ⟨by rw [HV.out]; unfold qaF; rw [if_neg (fun h => HR.out h.1)], (K1.out.trans' K6.out).qdk (by have := HB.out; omega) _ _ _ _ _ _⟩
theorem qiM (n : DyD) (x : Nat) (w : World) (hn : qad n = true) (hx : x < 18446744073709551616) :
  Calls prog 83 #[.agg #[.bool n.neg, .string n.n, .int .i64 n.e], .int .u64 (x : Int)] w fun en w' => en = .returned (.bool (qbb n x)) ∧ Kept w w' := by
 have FL := qh (fun W => qd6 x W hx)
 have h1 : qad (qa9 x).1 = true := qfj x
 unfold qbb
 generalize qa9 x = F at *
 have MUL := qh (fun W => qfb F.1 F.1 W h1 h1)
 have h2 := qdm F.1 F.1
 generalize mulS F.1 F.1 = M at *
 have CMP := qh (fun W => qcZ n M.1 W hn h2)
 rw [qhR n M.1]
 generalize qbx n M.1 = k at *
 obtain ⟨⟨f0, f1, f2⟩, f3⟩ := F
 obtain ⟨⟨m0, m1, m2⟩, m3⟩ := M
 obtain ⟨n0, n1, n2⟩ := n
 simp only at FL MUL CMP ⊢
 have HK := qh (show decide (0 ≤ -k) = decide (k ≤ 0) by rw [Bool.eq_iff_iff, decide_eq_true_eq, decide_eq_true_eq]; omega)
 clear h1 h2 hn hx
 go_enter func83, ntmps83
 go_upto_region 1 with fail
 obtain ⟨b, w1, hw, hb, B0, K1, HB⟩ := qa4 w (LC0 n0 n1 n2) 24
 rw [← hw, ← hb]; clear hw hb
 go_upto_region 2 with (go_at_call 118; (with_reducible refine (FL.out _).mono ?_); rintro e w3 ⟨rfl, hk3⟩)
 have K4 := qh (Kept.new hk3 (.cells (LC0 f0 f1 f2).toArray 24))
 have B1 := qh (Bx.new w3 (LC0 f0 f1 f2) 24 w3.heap.size rfl)
 obtain ⟨g, hg⟩ : ∃ g, g = w3.heap.size := ⟨_, rfl⟩
 rw [← hg] at B1 ⊢
 clear hg hk3
 generalize (w3.alloc (.cells (LC0 f0 f1 f2).toArray 24)) = w4 at *
 obtain ⟨c0, c1, c2⟩ := B1.out.c3
 go_upto_region 3 with (go_at_call 127; (with_reducible refine (MUL.out _).mono ?_); rintro e w5 ⟨rfl, hk5⟩)
 have K6 := qh (Kept.new (K4.out.trans' hk5) (.cells (LC0 m0 m1 m2).toArray 24))
 have B2 := qh (Bx.new w5 (LC0 m0 m1 m2) 24 w5.heap.size rfl)
 obtain ⟨g2, hg⟩ : ∃ g, g = w5.heap.size := ⟨_, rfl⟩
 rw [← hg] at B2 ⊢
 clear hg hk5
 generalize (w5.alloc (.cells (LC0 m0 m1 m2).toArray 24)) = w6 at *
 clear c0 c1 c2
 obtain ⟨c0, c1, c2⟩ := (B0.out.kept K6.out).c3
 obtain ⟨d0, d1, d2⟩ := B2.out.c3
 go_wp2_with (go_at_call 81; (with_reducible refine (CMP.out _).mono ?_); rintro e w7 ⟨rfl, hk7⟩)
 go_ret
 exact ⟨qby (by rw [HK.out]), (K1.out.trans' K6.out).trans' hk7⟩
end
end Go.Proofs.YtfdnledkcongaaaGreatDoor
