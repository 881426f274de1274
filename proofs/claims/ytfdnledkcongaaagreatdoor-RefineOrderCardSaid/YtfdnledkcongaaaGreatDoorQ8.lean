/- Texts of one claim laid together: VieD, VrA, VrB, VrC. -/
import Derived.Test.YtfdnledkcongaaaGreatDoorQ7
set_option linter.all false
namespace Go.Proofs.YtfdnledkcongaaaGreatDoor
open Go.RowKit Go.Proofs.Tryz
section
set_option maxHeartbeats 6400000
set_option maxRecDepth 100000
theorem qnv (s : SqD) (g : GsD) (w : World) (hs : sqB s = true) (hg : gsB g = true) (hT : T32 w) (hc : qaA s = none) :
  Calls prog 71 #[.agg #[.bool s.left.neg, .string s.left.n, .int .i64 s.left.e, .bool s.low.neg, .string s.low.n, .int .i64 s.low.e, .int .i64 s.e], .agg #[.bool g.re.neg, .string g.re.n, .int .i64 g.re.e, .bool g.im.neg, .string g.im.n, .int .i64 g.im.e]] w fun en w' => en = .returned (.tuple #[.bool false, .int .i64 4]) ∧ Kept w w' := by
 have RT : Hid (∀ W, Calls prog 54 #[.agg #[.bool s.left.neg, .string s.left.n, .int .i64 s.left.e, .bool s.low.neg, .string s.low.n, .int .i64 s.low.e, .int .i64 s.e]] W fun en w' => en = .returned (.int .i64 0) ∧ Kept W w') := fun W => by
  have := qbr s W (qde hs)
  rwa [hs] at this
 have CK := qh (qcs g hg)
 have CO : Hid (∀ W, Kept w W → Calls prog 22 #[.agg #[.bool s.left.neg, .string s.left.n, .int .i64 s.left.e, .bool s.low.neg, .string s.low.n, .int .i64 s.low.e, .int .i64 s.e]] W fun en w' => en = .returned (.tuple #[.agg ZL1.toArray, .int .i64 4]) ∧ Kept W w') := fun W h => by
  have := qdL s W hs (hT.kept h)
  rwa [hc] at this
 go_enter func71, ntmps71
 go_upto_region 1 with fail
 obtain ⟨b, w1, hw, hb, B0, B1, K1, HB⟩ := qa7 w (LC3 s.left.neg s.left.n s.left.e s.low.neg s.low.n s.low.e s.e) 26 (LC1 g.re.neg g.re.n g.re.e g.im.neg g.im.n g.im.e) 28
 rw [← hw, ← hb]; clear hw hb
 obtain ⟨c0, c1, c2, c3, c4, c5, c6⟩ := B0.out.c7
 go_upto_region 3 with (go_at_call 54; (with_reducible refine (RT.out _).mono ?_); rintro e w3 ⟨rfl, hk3⟩)
 have K3 := qh (K1.out.trans' hk3)
 replace B0 := qh (B0.out.kept hk3)
 replace B1 := qh (B1.out.kept hk3)
 clear hk3 c0 c1 c2 c3 c4 c5 c6
 obtain ⟨g0, g1, g2, g3, g4, g5⟩ := B1.out.c6
 go_upto_region 5 with (go_at_call 18; (with_reducible refine (CK.out _).mono ?_); rintro e w4 ⟨rfl, hk4⟩)
 have K4 := qh (K3.out.trans' hk4)
 replace B0 := qh (B0.out.kept hk4)
 replace B1 := qh (B1.out.kept hk4)
 clear hk4 g0 g1 g2 g3 g4 g5
 obtain ⟨c0, c1, c2, c3, c4, c5, c6⟩ := B0.out.c7
 refine wp_region_list ?_
 refine wpList_plain rfl fun K hK => qai (b := b) (n := 7) _ rfl rfl B0.out rfl underlying26 rfl (by kernel_rfl) (hK _ _ ?_)
 clear hK K c0 c1 c2 c3 c4 c5 c6
 refine wpList_plain rfl fun K hK => ?_
 go_step
 (with_reducible refine (CO.out _ K4.out).mono ?_); rintro e w5 ⟨rfl, hk5⟩
 refine hK _ _ ?_
 clear hK K
 have K5 := qh (K4.out.trans' hk5)
 replace B0 := qh (B0.out.kept hk5)
 replace B1 := qh (B1.out.kept hk5)
 clear hk5
 refine wpList_plain rfl fun K hK => BigFrame.wp_move _ rfl (hK _ _ ?_)
 clear hK K
 refine wpList_plain rfl fun K hK => ?_
 go_step
 refine hK _ _ ?_
 clear hK K
 refine wpList_plain rfl fun K hK => ?_
 go_step
 refine hK _ _ ?_
 clear hK K
 refine wpList_plain rfl fun K hK => ?_
 go_step
 refine hK _ _ ?_
 clear hK K
 have HG := qh (show w.heap.size ≤ w5.heap.size from K5.out.size)
 have N0 := qh (show b ≠ w5.heap.size by have := B0.out.lt; omega)
 have N1 := qh (show b + 1 ≠ w5.heap.size by have := B1.out.lt; omega)
 have K6 := qh (Kept.new K5.out (.cells ZL1.toArray 64))
 replace B0 := qh (B0.out.kept (Kept.new (Below.refl _ _) (.cells ZL1.toArray 64)))
 replace B1 := qh (B1.out.kept (Kept.new (Below.refl _ _) (.cells ZL1.toArray 64)))
 have B2 := qh (Bx.new w5 ZL1 64 w5.heap.size rfl)
 clear K5
 obtain ⟨g9, hg9⟩ : ∃ g9, g9 = w5.heap.size := ⟨_, rfl⟩
 rw [← hg9] at B2 HG N0 N1 ⊢
 clear hg9
 generalize World.alloc w5 _ = w6 at *
 refine wpList_plain rfl fun K hK => qaa (b := g9) (n := 24) _ _ rfl rfl rfl B2.out rfl rfl (by kernel_rfl) rfl (hK _ _ ?_)
 clear hK K
 replace B0 := qh (B0.out.off N0.out ZL1)
 replace B1 := qh (B1.out.off N1.out ZL1)
 replace B2 := qh (B2.out.row ZL1)
 replace K6 := qh (Kept.row K6.out HG.out ZL1)
 generalize World.setRow w6 _ _ = w7 at *
 go_wp2_with fail
 exact bodyPost_ret (v := .tuple #[.bool false, .int .i64 4]) (by simp [results, results71, go_sem]) rfl ⟨rfl, K6.out⟩
theorem qma (s : SqD) (g : GsD) (w : World) (hs : sqB s = true) (hg : gsB g = true) (hT : T32 w) (X Y : DyD) (hX : qad X = true) (hY : qad Y = true) (hc : qaA s = some [⟨s.left, s.low⟩, ⟨X, s.low⟩, ⟨s.left, Y⟩, ⟨X, Y⟩]) :
  Calls prog 71 #[.agg #[.bool s.left.neg, .string s.left.n, .int .i64 s.left.e, .bool s.low.neg, .string s.low.n, .int .i64 s.low.e, .int .i64 s.e], .agg #[.bool g.re.neg, .string g.re.n, .int .i64 g.re.e, .bool g.im.neg, .string g.im.n, .int .i64 g.im.e]] w fun en w' => en = .returned (.tuple #[.bool (decide (qbx s.left g.re ≤ 0) && (decide (qbx g.re X ≤ 0) && (decide (qbx s.low g.im ≤ 0) && decide (qbx g.im Y ≤ 0)))), .int .i64 0]) ∧ Kept w w' := by
 have RT : Hid (∀ W, Calls prog 54 #[.agg #[.bool s.left.neg, .string s.left.n, .int .i64 s.left.e, .bool s.low.neg, .string s.low.n, .int .i64 s.low.e, .int .i64 s.e]] W fun en w' => en = .returned (.int .i64 0) ∧ Kept W w') := fun W => by
  have := qbr s W (qde hs)
  rwa [hs] at this
 have CK := qh (qcs g hg)
 have CO : Hid (∀ W, Kept w W → Calls prog 22 #[.agg #[.bool s.left.neg, .string s.left.n, .int .i64 s.left.e, .bool s.low.neg, .string s.low.n, .int .i64 s.low.e, .int .i64 s.e]] W fun en w' => en = .returned (.tuple #[.agg #[.bool s.left.neg, .string s.left.n, .int .i64 s.left.e, .bool s.low.neg, .string s.low.n, .int .i64 s.low.e, .bool X.neg, .string X.n, .int .i64 X.e, .bool s.low.neg, .string s.low.n, .int .i64 s.low.e, .bool s.left.neg, .string s.left.n, .int .i64 s.left.e, .bool Y.neg, .string Y.n, .int .i64 Y.e, .bool X.neg, .string X.n, .int .i64 X.e, .bool Y.neg, .string Y.n, .int .i64 Y.e], .int .i64 0]) ∧ Kept W w') := fun W h => by
  have := qdL s W hs (hT.kept h)
  rwa [hc] at this
 obtain ⟨hs1, hs2, hs3, hs4⟩ := qas.1 hs
 obtain ⟨hg1, hg2⟩ := qam.1 hg
 have D1 := qh (fun W => qdr s.left g.re W hs1 hg1)
 have D2 := qh (fun W => qdr g.re X W hg1 hX)
 have D3 := qh (fun W => qdr s.low g.im W hs2 hg2)
 have D4 := qh (fun W => qdr g.im Y W hg2 hY)
 clear hs hg hT hc hs1 hs2 hs3 hs4 hg1 hg2
 generalize qbx s.left g.re = n1 at *
 generalize qbx g.re X = n2 at *
 generalize qbx s.low g.im = n3 at *
 generalize qbx g.im Y = n4 at *
 obtain ⟨R, hR⟩ : ∃ R, R = (decide (n1 ≤ 0) && (decide (n2 ≤ 0) && (decide (n3 ≤ 0) && decide (n4 ≤ 0)))) := ⟨_, rfl⟩
 rw [← hR]
 have HR := qh hR
 clear hR
 go_enter func71, ntmps71
 go_upto_region 1 with fail
 obtain ⟨b, w1, hw, hb, B0, B1, K1, HB⟩ := qa7 w (LC3 s.left.neg s.left.n s.left.e s.low.neg s.low.n s.low.e s.e) 26 (LC1 g.re.neg g.re.n g.re.e g.im.neg g.im.n g.im.e) 28
 rw [← hw, ← hb]; clear hw hb
 obtain ⟨c0, c1, c2, c3, c4, c5, c6⟩ := B0.out.c7
 go_upto_region 3 with (go_at_call 54; (with_reducible refine (RT.out _).mono ?_); rintro e w3 ⟨rfl, hk3⟩)
 have K3 := qh (K1.out.trans' hk3)
 replace B0 := qh (B0.out.kept hk3)
 replace B1 := qh (B1.out.kept hk3)
 clear hk3 c0 c1 c2 c3 c4 c5 c6
 obtain ⟨g0, g1, g2, g3, g4, g5⟩ := B1.out.c6
 go_upto_region 5 with (go_at_call 18; (with_reducible refine (CK.out _).mono ?_); rintro e w4 ⟨rfl, hk4⟩)
 have K4 := qh (K3.out.trans' hk4)
 replace B0 := qh (B0.out.kept hk4)
 replace B1 := qh (B1.out.kept hk4)
 clear hk4 g0 g1 g2 g3 g4 g5
 obtain ⟨c0, c1, c2, c3, c4, c5, c6⟩ := B0.out.c7
 refine wp_region_list ?_
 refine wpList_plain rfl fun K hK => qai (b := b) (n := 7) _ rfl rfl B0.out rfl underlying26 rfl (by kernel_rfl) (hK _ _ ?_)
 clear hK K c0 c1 c2 c3 c4 c5 c6
 refine wpList_plain rfl fun K hK => ?_
 go_step
 (with_reducible refine (CO.out _ K4.out).mono ?_); rintro e w5 ⟨rfl, hk5⟩
 refine hK _ _ ?_
 clear hK K
 have K5 := qh (K4.out.trans' hk5)
 replace B0 := qh (B0.out.kept hk5)
 replace B1 := qh (B1.out.kept hk5)
 clear hk5
 refine wpList_plain rfl fun K hK => BigFrame.wp_move _ rfl (hK _ _ ?_)
 clear hK K
 refine wpList_plain rfl fun K hK => ?_
 go_step
 refine hK _ _ ?_
 clear hK K
 refine wpList_plain rfl fun K hK => ?_
 go_step
 refine hK _ _ ?_
 clear hK K
 refine wpList_plain rfl fun K hK => ?_
 go_step
 refine hK _ _ ?_
 clear hK K
 have HG := qh (show w.heap.size ≤ w5.heap.size from K5.out.size)
 have N0 := qh (show b ≠ w5.heap.size by have := B0.out.lt; omega)
 have N1 := qh (show b + 1 ≠ w5.heap.size by have := B1.out.lt; omega)
 have K6 := qh (Kept.new K5.out (.cells ZL1.toArray 64))
 replace B0 := qh (B0.out.kept (Kept.new (Below.refl _ _) (.cells ZL1.toArray 64)))
 replace B1 := qh (B1.out.kept (Kept.new (Below.refl _ _) (.cells ZL1.toArray 64)))
 have B2 := qh (Bx.new w5 ZL1 64 w5.heap.size rfl)
 clear K5
 obtain ⟨g9, hg9⟩ : ∃ g9, g9 = w5.heap.size := ⟨_, rfl⟩
 rw [← hg9] at B2 HG N0 N1 ⊢
 clear hg9
 generalize World.alloc w5 _ = w6 at *
 refine wpList_plain rfl fun K hK => qaa (b := g9) (n := 24) _ _ rfl rfl rfl B2.out rfl rfl (by kernel_rfl) rfl (hK _ _ ?_)
 clear hK K
 replace B0 := qh (B0.out.off N0.out (LC4 s.left.neg s.left.n s.left.e s.low.neg s.low.n s.low.e X.neg X.n X.e s.low.neg s.low.n s.low.e s.left.neg s.left.n s.left.e Y.neg Y.n Y.e X.neg X.n X.e Y.neg Y.n Y.e))
 replace B1 := qh (B1.out.off N1.out (LC4 s.left.neg s.left.n s.left.e s.low.neg s.low.n s.low.e X.neg X.n X.e s.low.neg s.low.n s.low.e s.left.neg s.left.n s.left.e Y.neg Y.n Y.e X.neg X.n X.e Y.neg Y.n Y.e))
 replace B2 := qh (B2.out.row (LC4 s.left.neg s.left.n s.left.e s.low.neg s.low.n s.low.e X.neg X.n X.e s.low.neg s.low.n s.low.e s.left.neg s.left.n s.left.e Y.neg Y.n Y.e X.neg X.n X.e Y.neg Y.n Y.e))
 replace K6 := qh (Kept.row K6.out HG.out (LC4 s.left.neg s.left.n s.left.e s.low.neg s.low.n s.low.e X.neg X.n X.e s.low.neg s.low.n s.low.e s.left.neg s.left.n s.left.e Y.neg Y.n Y.e X.neg X.n X.e Y.neg Y.n Y.e))
 generalize World.setRow w6 _ _ = w7 at *
 obtain ⟨c0, c1, c2, c3, c4, c5, c6⟩ := B0.out.c7
 obtain ⟨g0, g1, g2, g3, g4, g5⟩ := B1.out.c6
 go_upto_region 9 with (go_at_call 69; (with_reducible refine (D1.out _).mono ?_); rintro e w8 ⟨rfl, hk8⟩)
 have H1 := qh hk8
 replace B0 := qh (B0.out.kept hk8)
 replace B1 := qh (B1.out.kept hk8)
 replace B2 := qh (B2.out.kept hk8)
 replace K6 := qh (K6.out.trans' hk8)
 clear hk8 H1 c0 c1 c2 c3 c4 c5 c6 g0 g1 g2 g3 g4 g5
 obtain ⟨g0, g1, g2, g3, g4, g5⟩ := B1.out.c6
 have d18 := B2.out.c 18 rfl
 have d19 := B2.out.c 19 rfl
 have d20 := B2.out.c 20 rfl
 go_upto_region 10 with (go_at_call 69; (with_reducible refine (D2.out _).mono ?_); rintro e w8 ⟨rfl, hk8⟩)
 have H2 := qh hk8
 replace B0 := qh (B0.out.kept hk8)
 replace B1 := qh (B1.out.kept hk8)
 replace B2 := qh (B2.out.kept hk8)
 replace K6 := qh (K6.out.trans' hk8)
 clear hk8 H2 g0 g1 g2 g3 g4 g5 d18 d19 d20
 obtain ⟨c0, c1, c2, c3, c4, c5, c6⟩ := B0.out.c7
 obtain ⟨g0, g1, g2, g3, g4, g5⟩ := B1.out.c6
 go_upto_region 11 with (go_at_call 69; (with_reducible refine (D3.out _).mono ?_); rintro e w8 ⟨rfl, hk8⟩)
 have H3 := qh hk8
 replace B0 := qh (B0.out.kept hk8)
 replace B1 := qh (B1.out.kept hk8)
 replace B2 := qh (B2.out.kept hk8)
 replace K6 := qh (K6.out.trans' hk8)
 clear hk8 H3 c0 c1 c2 c3 c4 c5 c6 g0 g1 g2 g3 g4 g5
 obtain ⟨g0, g1, g2, g3, g4, g5⟩ := B1.out.c6
 have d21 := B2.out.c 21 rfl
 have d22 := B2.out.c 22 rfl
 have d23 := B2.out.c 23 rfl
 go_upto_region 12 with (go_at_call 69; (with_reducible refine (D4.out _).mono ?_); rintro e w8 ⟨rfl, hk8⟩)
 have H4 := qh hk8
 replace B0 := qh (B0.out.kept hk8)
 replace B1 := qh (B1.out.kept hk8)
 replace B2 := qh (B2.out.kept hk8)
 replace K6 := qh (K6.out.trans' hk8)
 clear hk8 H4 g0 g1 g2 g3 g4 g5 d21 d22 d23
 clear RT CK CO D1 D2 D3 D4 B0 B1 B2 K1 K3 K4
 by_cases h1 : n1 ≤ 0
 ·by_cases h2 : n2 ≤ 0
  ·by_cases h3 : n3 ≤ 0
   ·go_wp2_with fail
    exact bodyPost_ret (v := .tuple #[.bool (decide (n4 ≤ 0)), .int .i64 0]) (by simp [results, results71, go_sem]) rfl ⟨by rw [HR.out, decide_eq_true h1, decide_eq_true h2, decide_eq_true h3]; rfl, K6.out⟩
   ·go_wp2_with fail
    exact bodyPost_ret (v := .tuple #[.bool false, .int .i64 0]) (by simp [results, results71, go_sem]) rfl ⟨by rw [HR.out, decide_eq_true h1, decide_eq_true h2, decide_eq_false (show ¬ n3 ≤ 0 by omega)]; rfl, K6.out⟩
  ·go_wp2_with fail
   exact bodyPost_ret (v := .tuple #[.bool false, .int .i64 0]) (by simp [results, results71, go_sem]) rfl ⟨by rw [HR.out, decide_eq_true h1, decide_eq_false (show ¬ n2 ≤ 0 by omega)]; rfl, K6.out⟩
 ·go_wp2_with fail
  exact bodyPost_ret (v := .tuple #[.bool false, .int .i64 0]) (by simp [results, results71, go_sem]) rfl ⟨by rw [HR.out, decide_eq_false (show ¬ n1 ≤ 0 by omega)]; rfl, K6.out⟩
def ql : Option Bool → Value
 | none => .tuple #[.bool false, .int .i64 4]
 | some b => .tuple #[.bool b, .int .i64 0]
theorem qlv (s : SqD) (g : GsD) (w : World) (hs : sqB s = true) (hg : gsB g = true) (hT : T32 w) :
  Calls prog 71 #[.agg #[.bool s.left.neg, .string s.left.n, .int .i64 s.left.e, .bool s.low.neg, .string s.low.n, .int .i64 s.low.e, .int .i64 s.e], .agg #[.bool g.re.neg, .string g.re.n, .int .i64 g.re.e, .bool g.im.neg, .string g.im.n, .int .i64 g.im.e]] w fun en w' => en = .returned (ql (qcg s g)) ∧ Kept w w' := by
 by_cases h : (qaN s).2 = 0 ∧ (qaZ s).2 = 0
 ·have hc : qaA s = some [⟨s.left, s.low⟩, ⟨(qaN s).1, s.low⟩, ⟨s.left, (qaZ s).1⟩, ⟨(qaN s).1, (qaZ s).1⟩] := by unfold qaA; rw [if_pos h]
  have hh : qcg s g = some (decide (qbx s.left g.re ≤ 0) && (decide (qbx g.re (qaN s).1 ≤ 0) && (decide (qbx s.low g.im ≤ 0) && decide (qbx g.im (qaZ s).1 ≤ 0)))) := by unfold qcg; rw [if_pos h]
  rw [hh]
  exact qma s g w hs hg hT _ _ (qce _ _ (qas.1 hs).1) (qce _ _ (qas.1 hs).2.1) hc
 ·have hc : qaA s = none := by unfold qaA; rw [if_neg h]
  have hh : qcg s g = none := by unfold qcg; rw [if_neg h]
  rw [hh]
  exact qnv s g w hs hg hT hc
end
section
set_option maxHeartbeats 3200000
set_option maxRecDepth 100000
attribute [local go_sem] run_float_arith qaI qaJ qau qah qae
theorem qms (n : Int) (w : World) : Calls prog 74 #[.int .i64 n] w fun e w' => e = .returned (.bool (decide (-4096 ≤ n) && decide (n ≤ 4096))) ∧ w' = w := by
 obtain ⟨R, hR⟩ : ∃ R, R = (decide (-4096 ≤ n) && decide (n ≤ 4096)) := ⟨_, rfl⟩
 rw [← hR]
 have HR := qh hR
 clear hR
 by_cases h1 : -4096 ≤ n
 ·by_cases h2 : n ≤ 4096
  ·have H := qh (And.intro h1 h2)
   go_enter func74, ntmps74
   go_wp2_with fail
   go_ret
   exact ⟨qby (by rw [HR.out, decide_eq_true H.out.1, decide_eq_true H.out.2]; rfl), rfl⟩
  ·have H := qh (And.intro h1 h2)
   go_enter func74, ntmps74
   go_wp2_with fail
   go_ret
   exact ⟨qby (by rw [HR.out, decide_eq_true H.out.1, decide_eq_false (show ¬ n ≤ 4096 by have := H.out.2; omega)]; rfl), rfl⟩
 ·have H := qh h1
  go_enter func74, ntmps74
  go_wp2_with fail
  go_ret
  exact ⟨qby (by rw [HR.out, decide_eq_false (show ¬ -4096 ≤ n by have := H.out; omega)]; rfl), rfl⟩
theorem qjX (s : SqD) (w : World) (hs : s.left.ok ∧ s.low.ok) :
  Calls prog 40 #[.agg #[.bool s.left.neg, .string s.left.n, .int .i64 s.left.e, .bool s.low.neg, .string s.low.n, .int .i64 s.low.e, .int .i64 s.e]] w fun e w' => e = .returned (.bool (sqB s)) ∧ Kept w w' := by
 have CP := qh (fun (W : World) => qdW s.left W hs.1)
 have CQ := qh (fun (W : World) => qdW s.low W hs.2)
 have CS := qh (fun (W : World) => qms s.e W)
 unfold sqB
 generalize qad s.left = bp at *
 generalize qad s.low = bq at *
 generalize (decide (-4096 ≤ s.e) && decide (s.e ≤ 4096)) = br at *
 obtain ⟨⟨a0, a1, a2⟩, ⟨a3, a4, a5⟩, a6⟩ := s
 simp only at CP CQ CS ⊢
 clear hs
 cases bp with
 | false =>
  go_enter func40, ntmps40
  go_upto_region 1 with fail
  obtain ⟨b, w1, hw, hb, B0, K1, HB⟩ := qa4 w (LC3 a0 a1 a2 a3 a4 a5 a6) 26
  rw [← hw, ← hb]; clear hw hb
  obtain ⟨c0, c1, c2, c3, c4, c5, c6⟩ := B0.out.c7
  go_wp2_with (go_at_call 73; (with_reducible refine (CP.out _).mono ?_); rintro e w2 ⟨rfl, hk2⟩)
  go_ret
  exact ⟨rfl, K1.out.trans' hk2⟩
 | true =>
  cases bq with
  | false =>
   go_enter func40, ntmps40
   go_upto_region 1 with fail
   obtain ⟨b, w1, hw, hb, B0, K1, HB⟩ := qa4 w (LC3 a0 a1 a2 a3 a4 a5 a6) 26
   rw [← hw, ← hb]; clear hw hb
   obtain ⟨c0, c1, c2, c3, c4, c5, c6⟩ := B0.out.c7
   go_wp2_with fail
   (with_reducible refine (CP.out _).mono ?_)
   rintro e w2 ⟨rfl, hk2⟩
   obtain ⟨c0, c1, c2, c3, c4, c5, c6⟩ := (B0.out.kept hk2).c7
   have K2 := qh hk2
   clear hk2 CP
   go_wp2_with fail
   (with_reducible refine (CQ.out _).mono ?_)
   rintro e w3 ⟨rfl, hk3⟩
   go_wp2_with fail
   go_ret
   exact ⟨rfl, (K1.out.trans' K2.out).trans' hk3⟩
  | true =>
   go_enter func40, ntmps40
   go_upto_region 1 with fail
   obtain ⟨b, w1, hw, hb, B0, K1, HB⟩ := qa4 w (LC3 a0 a1 a2 a3 a4 a5 a6) 26
   rw [← hw, ← hb]; clear hw hb
   obtain ⟨c0, c1, c2, c3, c4, c5, c6⟩ := B0.out.c7
   go_wp2_with fail
   (with_reducible refine (CP.out _).mono ?_)
   rintro e w2 ⟨rfl, hk2⟩
   obtain ⟨c0, c1, c2, c3, c4, c5, c6⟩ := (B0.out.kept hk2).c7
   have K2 := qh hk2
   clear hk2 CP
   go_wp2_with fail
   (with_reducible refine (CQ.out _).mono ?_)
   rintro e w3 ⟨rfl, hk3⟩
   obtain ⟨c0, c1, c2, c3, c4, c5, c6⟩ := ((B0.out.kept K2.out).kept hk3).c7
   have K3 := qh hk3
   clear hk3 CQ
   go_wp2_with fail
   (with_reducible refine (CS.out _).mono ?_)
   rintro e w4 ⟨rfl, hw⟩
   replace hw := hw.symm
   subst hw
   go_wp2_with fail
   go_ret
   exact ⟨rfl, (K1.out.trans' K2.out).trans' K3.out⟩
theorem qgq (d : DyD) (n e : Int) (w : World) (hd : qad d = true) (hn : n.natAbs < 1000000) (he : e.natAbs ≤ 1000000) :
  Calls prog 117 #[.agg #[.bool d.neg, .string d.n, .int .i64 d.e], .int .i64 n, .int .i64 e] w fun en w' => en = .returned (qaf (qaM d n e)) ∧ Kept w w' := by
 have OF := qh (fun W => qnp n e W (by omega) (by omega) (by omega))
 have ho : qad (qbh n e).1 = true := qeF _ _
 unfold qaM ofS
 generalize qbh n e = F at *
 have ADD := qh (fun W => qdX d F.1 W hd ho)
 generalize qaS d F.1 = R at *
 obtain ⟨⟨f0, f1, f2⟩, f3⟩ := F
 obtain ⟨d0, d1, d2⟩ := d
 simp only at OF ADD ⊢
 have hcv : IntKind.i64.wrap n = n := IntWalk.i64_in _ (by omega)
 clear hd ho he
 go_enter func117, ntmps117
 go_upto_region 1 with fail
 obtain ⟨b, w1, hw, hb, B0, B1, K1, HB⟩ := qa7 w (LC0 d0 d1 d2) 24 (LC0 false ⟨#[]⟩ 0) 24
 rw [← hw, ← hb]; clear hw hb
 go_upto_region 2 with (go_at_call 138; (with_reducible refine (OF.out _).mono ?_); rintro e w3 ⟨rfl, hk3⟩)
 have K4 := qh (Kept.new hk3 (.cells (LC0 f0 f1 f2).toArray 24))
 have B3 := qh (Bx.new w3 (LC0 f0 f1 f2) 24 w3.heap.size rfl)
 obtain ⟨g, hg⟩ : ∃ g, g = w3.heap.size := ⟨_, rfl⟩
 rw [← hg] at B3 ⊢
 clear hg hk3
 generalize (w3.alloc (.cells (LC0 f0 f1 f2).toArray 24)) = w4 at *
 obtain ⟨c0, c1, c2⟩ := (B0.out.kept K4.out).c3
 obtain ⟨e0, e1, e2⟩ := B3.out.c3
 go_wp2_with (go_at_call 91; (with_reducible refine (ADD.out _).mono ?_); rintro e w5 ⟨rfl, hk5⟩; have K5 := qh (K4.out.trans' hk5); obtain ⟨r0, r1, r2⟩ := (B1.out.kept K5.out).c3; obtain ⟨t0, t1, t2⟩ := (B1.out.kept K5.out).f3)
 exact bodyPost_ret (v := qaf R) (by simp [results, results117, go_sem, r0, r1, r2, qaf]) rfl ⟨rfl, (K1.out.trans' K5.out).qaL (by have := HB.out; omega) _ _ _⟩
theorem qep (s : SqD) (w : World) (hs : sqB s = true) :
  Calls prog 76 #[.agg #[.bool s.left.neg, .string s.left.n, .int .i64 s.left.e, .bool s.low.neg, .string s.low.n, .int .i64 s.low.e, .int .i64 s.e]] w fun en w' => en = .returned (qaC (qbu s)) ∧ Kept w w' := by
 obtain ⟨h1, h2, h3, h4⟩ := qas.1 hs
 have M1 := qh (fun W => qgq s.left 1 (s.e - 1) W h1 (by omega) (by omega))
 have M2 := qh (fun W => qgq s.low 1 (s.e - 1) W h2 (by omega) (by omega))
 unfold qbu
 generalize qaM s.left 1 (s.e - 1) = R at *
 generalize qaM s.low 1 (s.e - 1) = Q at *
 obtain ⟨v, hv⟩ : ∃ v : GsD × Int, v = qaF R Q := ⟨_, rfl⟩
 rw [← hv]
 have HV := qh hv
 clear hv
 obtain ⟨⟨a0, a1, a2⟩, ⟨a3, a4, a5⟩, a6⟩ := s
 obtain ⟨⟨r0, r1, r2⟩, r3⟩ := R
 obtain ⟨⟨q0, q1, q2⟩, q3⟩ := Q
 simp only at M1 M2 h3 h4 ⊢
 clear hs h1 h2
 go_enter func76, ntmps76
 go_upto_region 1 with fail
 obtain ⟨b, w1, hw, hb, B0, B1, K1, HB⟩ := qa7 w (LC3 a0 a1 a2 a3 a4 a5 a6) 26 ZL0 28
 rw [← hw, ← hb]; clear hw hb
 obtain ⟨c0, c1, c2, c3, c4, c5, c6⟩ := B0.out.c7
 go_upto_region 2 with (go_at_call 117; (with_reducible refine (M1.out _).mono ?_); rintro e w3 ⟨rfl, hk3⟩)
 have K4 := qh (Kept.new hk3 (.cells (LC0 r0 r1 r2).toArray 24))
 have B2 := qh (Bx.new w3 (LC0 r0 r1 r2) 24 w3.heap.size rfl)
 obtain ⟨g, hg⟩ : ∃ g, g = w3.heap.size := ⟨_, rfl⟩
 rw [← hg] at B2 ⊢
 clear hg hk3
 generalize (w3.alloc (.cells (LC0 r0 r1 r2).toArray 24)) = w4 at *
 clear c0 c1 c2 c3 c4 c5 c6
 obtain ⟨c0, c1, c2, c3, c4, c5, c6⟩ := (B0.out.kept K4.out).c7
 go_upto_region 3 with (go_at_call 117; (with_reducible refine (M2.out _).mono ?_); rintro e w5 ⟨rfl, hk5⟩)
 have K6 := qh (Kept.new (K4.out.trans' hk5) (.cells (LC0 q0 q1 q2).toArray 24))
 have B3 := qh (Bx.new w5 (LC0 q0 q1 q2) 24 w5.heap.size rfl)
 replace B2 := qh ((B2.out.kept hk5).kept (Kept.new (Below.refl _ _) (.cells (LC0 q0 q1 q2).toArray 24)))
 obtain ⟨g2, hg⟩ : ∃ g, g = w5.heap.size := ⟨_, rfl⟩
 rw [← hg] at B3 ⊢
 clear hg hk5
 generalize (w5.alloc (.cells (LC0 q0 q1 q2).toArray 24)) = w6 at *
 clear c0 c1 c2 c3 c4 c5 c6 M1 M2
 obtain ⟨c0, c1, c2⟩ := B2.out.c3
 obtain ⟨d0, d1, d2⟩ := B3.out.c3
 obtain ⟨e0, e1, e2, e3, e4, e5⟩ := (B1.out.kept K6.out).c6
 obtain ⟨f0, f1, f2, f3, f4, f5⟩ := (B1.out.kept K6.out).f6
 by_cases h1 : r3 = 0
 ·by_cases h2 : q3 = 0
  ·subst h1 h2
   go_wp2_with fail
   exact bodyPost_ret (v := qaC (⟨⟨r0, r1, r2⟩, ⟨q0, q1, q2⟩⟩, 0)) (by simp [results, results76, go_sem, e0, e1, e2, e3, e4, e5, qaC]) rfl ⟨by rw [HV.out]; rfl, (K1.out.trans' K6.out).qdk (by have := HB.out; omega) _ _ _ _ _ _⟩
  ·subst h1
   have HQ := qh h2
   go_wp2_with fail
   exact bodyPost_ret (v := qaC (zG, 4)) (by simp [results, results76, go_sem, e0, e1, e2, e3, e4, e5, qaC, zG, zD]) rfl ⟨by rw [HV.out]; unfold qaF; rw [if_neg (fun h => HQ.out h.2)], (K1.out.trans' K6.out).qdk (by have := HB.out; omega) _ _ _ _ _ _⟩
 ·have HR := qh h1
  go_wp2_with fail
  exact bodyPost_ret (v := qaC (zG, 4)) (by simp [results, results76, go_sem, e0, e1, e2, e3, e4, e5, qaC, zG, zD]) rfl ⟨by rw [HV.out]; unfold qaF; rw [if_neg (fun h => HR.out h.1)], (K1.out.trans' K6.out).qdk (by have := HB.out; omega) _ _ _ _ _ _⟩
theorem qiM (n : DyD) (x : Nat) (w : World) (hn : qad n = true) (hx : x < 18446744073709551616) :
  Calls prog 83 #[.agg #[.bool n.neg, .string n.n, .int .i64 n.e], .int .u64 (x : Int)] w fun en w' => en = .returned (.bool (qbb n x)) ∧ Kept w w' := by
 have FL := qh (fun W => qd6 x W hx)
 have h1 : qad (qa9 x).1 = true := qfj x
 unfold qbb
 generalize qa9 x = F at *
 have MUL := qh (fun W => qfb F.1 F.1 W h1 h1)
 have h2 := qdm F.1 F.1
 generalize mulS F.1 F.1 = M at *
 have CMP := qh (fun W => qcZ n M.1 W hn h2)
 rw [qhR n M.1]
 generalize qbx n M.1 = k at *
 obtain ⟨⟨f0, f1, f2⟩, f3⟩ := F
 obtain ⟨⟨m0, m1, m2⟩, m3⟩ := M
 obtain ⟨n0, n1, n2⟩ := n
 simp only at FL MUL CMP ⊢
 have HK := qh (show decide (0 ≤ -k) = decide (k ≤ 0) by rw [Bool.eq_iff_iff, decide_eq_true_eq, decide_eq_true_eq]; omega)
 clear h1 h2 hn hx
 go_enter func83, ntmps83
 go_upto_region 1 with fail
 obtain ⟨b, w1, hw, hb, B0, K1, HB⟩ := qa4 w (LC0 n0 n1 n2) 24
 rw [← hw, ← hb]; clear hw hb
 go_upto_region 2 with (go_at_call 118; (with_reducible refine (FL.out _).mono ?_); rintro e w3 ⟨rfl, hk3⟩)
 have K4 := qh (Kept.new hk3 (.cells (LC0 f0 f1 f2).toArray 24))
 have B1 := qh (Bx.new w3 (LC0 f0 f1 f2) 24 w3.heap.size rfl)
 obtain ⟨g, hg⟩ : ∃ g, g = w3.heap.size := ⟨_, rfl⟩
 rw [← hg] at B1 ⊢
 clear hg hk3
 generalize (w3.alloc (.cells (LC0 f0 f1 f2).toArray 24)) = w4 at *
 obtain ⟨c0, c1, c2⟩ := B1.out.c3
 go_upto_region 3 with (go_at_call 127; (with_reducible refine (MUL.out _).mono ?_); rintro e w5 ⟨rfl, hk5⟩)
 have K6 := qh (Kept.new (K4.out.trans' hk5) (.cells (LC0 m0 m1 m2).toArray 24))
 have B2 := qh (Bx.new w5 (LC0 m0 m1 m2) 24 w5.heap.size rfl)
 obtain ⟨g2, hg⟩ : ∃ g, g = w5.heap.size := ⟨_, rfl⟩
 rw [← hg] at B2 ⊢
 clear hg hk5
 generalize (w5.alloc (.cells (LC0 m0 m1 m2).toArray 24)) = w6 at *
 clear c0 c1 c2
 obtain ⟨c0, c1, c2⟩ := (B0.out.kept K6.out).c3
 obtain ⟨d0, d1, d2⟩ := B2.out.c3
 go_wp2_with (go_at_call 81; (with_reducible refine (CMP.out _).mono ?_); rintro e w7 ⟨rfl, hk7⟩)
 go_ret
 exact ⟨qby (by rw [HK.out]), (K1.out.trans' K6.out).trans' hk7⟩
end
section
set_option maxHeartbeats 3200000
set_option maxRecDepth 100000
attribute [local go_sem] run_float_arith qaI qaJ qau qah qae
theorem qg2 (s : SqD) (w : World) (hs : sqB s = true) :
  Calls prog 116 #[.agg #[.bool s.left.neg, .string s.left.n, .int .i64 s.left.e, .bool s.low.neg, .string s.low.n, .int .i64 s.low.e, .int .i64 s.e]] w fun en w' => en = .returned (.tuple #[.agg #[.bool (qaN s).1.neg, .string (qaN s).1.n, .int .i64 (qaN s).1.e], .agg #[.bool (qaZ s).1.neg, .string (qaZ s).1.n, .int .i64 (qaZ s).1.e], .int .i64 (if (qaN s).2 = 0 ∧ (qaZ s).2 = 0 then 0 else 4)]) ∧ Kept w w' := by
 obtain ⟨h1, h2, h3, h4⟩ := qas.1 hs
 have M1 := qh (fun W => qgq s.left 1 s.e W h1 (by omega) (by omega))
 have M2 := qh (fun W => qgq s.low 1 s.e W h2 (by omega) (by omega))
 unfold qaN qaZ
 generalize qaM s.left 1 s.e = R at *
 generalize qaM s.low 1 s.e = Q at *
 obtain ⟨⟨a0, a1, a2⟩, ⟨a3, a4, a5⟩, a6⟩ := s
 obtain ⟨⟨r0, r1, r2⟩, r3⟩ := R
 obtain ⟨⟨q0, q1, q2⟩, q3⟩ := Q
 simp only at M1 M2 h3 h4 ⊢
 obtain ⟨E, hE⟩ : ∃ E : Int, E = if r3 = 0 ∧ q3 = 0 then 0 else 4 := ⟨_, rfl⟩
 rw [← hE]
 have HE := qh hE
 clear hs h1 h2 hE
 go_enter func116, ntmps116
 go_upto_region 1 with fail
 obtain ⟨b, w1, hw, hb, B0, B1, B2, K1, HB⟩ := qct w (LC3 a0 a1 a2 a3 a4 a5 a6) 26 (LC0 false ⟨#[]⟩ 0) 24 (LC0 false ⟨#[]⟩ 0) 24
 rw [← hw, ← hb]; clear hw hb
 obtain ⟨c0, c1, c2, c3, c4, c5, c6⟩ := B0.out.c7
 go_upto_region 2 with (go_at_call 117; (with_reducible refine (M1.out _).mono ?_); rintro e w3 ⟨rfl, hk3⟩)
 have HG0 := qh (show w3.heap.size ≠ b + 1 by have := B1.out.lt; have := hk3.size; omega)
 have K4 := qh (Kept.new hk3 (.cells (LC0 r0 r1 r2).toArray 24))
 have B3 := qh (Bx.new w3 (LC0 r0 r1 r2) 24 w3.heap.size rfl)
 obtain ⟨g, hg⟩ : ∃ g, g = w3.heap.size := ⟨_, rfl⟩
 rw [← hg] at B3 HG0 ⊢
 clear hg hk3
 generalize (w3.alloc (.cells (LC0 r0 r1 r2).toArray 24)) = w4 at *
 clear c0 c1 c2 c3 c4 c5 c6
 obtain ⟨c0, c1, c2, c3, c4, c5, c6⟩ := (B0.out.kept K4.out).c7
 go_upto_region 3 with (go_at_call 117; (with_reducible refine (M2.out _).mono ?_); rintro e w5 ⟨rfl, hk5⟩)
 have HG2 := qh (show w5.heap.size ≠ b + 1 by have := B1.out.lt; have := K4.out.size; have := hk5.size; omega)
 have K6 := qh (Kept.new (K4.out.trans' hk5) (.cells (LC0 q0 q1 q2).toArray 24))
 have B4 := qh (Bx.new w5 (LC0 q0 q1 q2) 24 w5.heap.size rfl)
 replace B3 := qh ((B3.out.kept hk5).kept (Kept.new (Below.refl _ _) (.cells (LC0 q0 q1 q2).toArray 24)))
 obtain ⟨g2, hg⟩ : ∃ g, g = w5.heap.size := ⟨_, rfl⟩
 rw [← hg] at B4 HG2 ⊢
 clear hg hk5
 generalize (w5.alloc (.cells (LC0 q0 q1 q2).toArray 24)) = w6 at *
 clear c0 c1 c2 c3 c4 c5 c6 M1 M2
 obtain ⟨c0, c1, c2⟩ := B3.out.c3
 obtain ⟨d0, d1, d2⟩ := B4.out.c3
 obtain ⟨e0, e1, e2⟩ := (B1.out.kept K6.out).c3
 obtain ⟨e3, e4, e5⟩ := (B2.out.kept K6.out).c3
 obtain ⟨f0, f1, f2⟩ := (B1.out.kept K6.out).f3
 obtain ⟨f3, f4, f5⟩ := (B2.out.kept K6.out).f3
 have KS : Hid (∀ v0 v1 v2 : Value, ((((w6.setCell ⟨b + 1, 0, none⟩ v0).setCell ⟨b + 1, 1, none⟩ v1).setCell ⟨b + 1, 2, none⟩ v2).drew.cell? ⟨g, 0, none⟩ = some (.bool r0) ∧ (((w6.setCell ⟨b + 1, 0, none⟩ v0).setCell ⟨b + 1, 1, none⟩ v1).setCell ⟨b + 1, 2, none⟩ v2).drew.cell? ⟨g, 1, none⟩ = some (.string r1) ∧ (((w6.setCell ⟨b + 1, 0, none⟩ v0).setCell ⟨b + 1, 1, none⟩ v1).setCell ⟨b + 1, 2, none⟩ v2).drew.cell? ⟨g, 2, none⟩ = some (.int .i64 r2)) ∧ (((w6.setCell ⟨b + 1, 0, none⟩ v0).setCell ⟨b + 1, 1, none⟩ v1).setCell ⟨b + 1, 2, none⟩ v2).drew.cell? ⟨g2, 0, none⟩ = some (.bool q0) ∧ (((w6.setCell ⟨b + 1, 0, none⟩ v0).setCell ⟨b + 1, 1, none⟩ v1).setCell ⟨b + 1, 2, none⟩ v2).drew.cell? ⟨g2, 1, none⟩ = some (.string q1) ∧ (((w6.setCell ⟨b + 1, 0, none⟩ v0).setCell ⟨b + 1, 1, none⟩ v1).setCell ⟨b + 1, 2, none⟩ v2).drew.cell? ⟨g2, 2, none⟩ = some (.int .i64 q2)) := fun v0 v1 v2 => ⟨(Bx.drew (((B3.out.far ⟨b + 1, 0, none⟩ HG0.out v0).far ⟨b + 1, 1, none⟩ HG0.out v1).far ⟨b + 1, 2, none⟩ HG0.out v2)).c3, (Bx.drew (((B4.out.far ⟨b + 1, 0, none⟩ HG2.out v0).far ⟨b + 1, 1, none⟩ HG2.out v1).far ⟨b + 1, 2, none⟩ HG2.out v2)).c3⟩
 have hS0 : (w6.drew.cell? ⟨g, 0, none⟩ = some (.bool r0) ∧ w6.drew.cell? ⟨g, 1, none⟩ = some (.string r1) ∧ w6.drew.cell? ⟨g, 2, none⟩ = some (.int .i64 r2)) ∧ w6.drew.cell? ⟨g2, 0, none⟩ = some (.bool q0) ∧ w6.drew.cell? ⟨g2, 1, none⟩ = some (.string q1) ∧ w6.drew.cell? ⟨g2, 2, none⟩ = some (.int .i64 q2) := ⟨⟨c0, c1, c2⟩, d0, d1, d2⟩
 by_cases h1 : r3 = 0
 ·by_cases h2 : q3 = 0
  ·have hE0 := qh (show E = 0 by rw [HE.out, if_pos ⟨h1, h2⟩])
   subst h1 h2
   go_wp2_with fail
   refine qab (fun W => (W.cell? ⟨g, 0, none⟩ = some (.bool r0) ∧ W.cell? ⟨g, 1, none⟩ = some (.string r1) ∧ W.cell? ⟨g, 2, none⟩ = some (.int .i64 r2)) ∧ W.cell? ⟨g2, 0, none⟩ = some (.bool q0) ∧ W.cell? ⟨g2, 1, none⟩ = some (.string q1) ∧ W.cell? ⟨g2, 2, none⟩ = some (.int .i64 q2)) [3,4] (by kernel_rfl) ?_ (fun hHeld => ?_)
   ·first | with_reducible assumption | with_reducible exact KS.out _ _ _
   refine wS 0 33 ?_
   refine wS 1 34 ?_
   refine oS 2 fun K hK => ?_
   go_simp
   refine hK.out _ _ ?_ (fun hHeld => ?_)
   ·first | with_reducible assumption | with_reducible exact KS.out _ _ _
   clear hK K
   try simp only [Act.put, tdy]
   refine eS 3 fun K hK => ?_
   go_simp
   refine hK.out _ _ ?_
   clear hK K
   try simp only [Act.put, tdy]
   refine eS 4 fun K hK => ?_
   go_simp
   refine hK.out _ _ ?_
   clear hK K
   try simp only [Act.put, tdy]
   refine dS ?_ _
   go_wp2_with fail
   exact bodyPost_ret (v := .tuple #[.agg #[.bool r0, .string r1, .int .i64 r2], .agg #[.bool q0, .string q1, .int .i64 q2], .int .i64 0]) (by simp [results, results116, go_sem, e0, e1, e2, e3, e4, e5]) rfl ⟨by rw [hE0.out], (((K1.out.trans' K6.out).qaL (b := b + 1) (by have := HB.out; omega) _ _ _).qaL (b := b + 1 + 1) (by have := HB.out; omega) _ _ _).drew'⟩
  ·have hE0 := qh (show E = 4 by rw [HE.out, if_neg (fun h => h2 h.2)])
   subst h1
   go_wp2_with fail
   refine qab (fun W => (W.cell? ⟨g, 0, none⟩ = some (.bool r0) ∧ W.cell? ⟨g, 1, none⟩ = some (.string r1) ∧ W.cell? ⟨g, 2, none⟩ = some (.int .i64 r2)) ∧ W.cell? ⟨g2, 0, none⟩ = some (.bool q0) ∧ W.cell? ⟨g2, 1, none⟩ = some (.string q1) ∧ W.cell? ⟨g2, 2, none⟩ = some (.int .i64 q2)) [3,4] (by kernel_rfl) ?_ (fun hHeld => ?_)
   ·first | with_reducible assumption | with_reducible exact KS.out _ _ _
   refine wS 0 31 ?_
   refine wS 1 32 ?_
   refine oS 2 fun K hK => ?_
   go_simp
   refine hK.out _ _ ?_ (fun hHeld => ?_)
   ·first | with_reducible assumption | with_reducible exact KS.out _ _ _
   clear hK K
   try simp only [Act.put, tdy]
   refine eS 3 fun K hK => ?_
   go_simp
   refine hK.out _ _ ?_
   clear hK K
   try simp only [Act.put, tdy]
   refine eS 4 fun K hK => ?_
   go_simp
   refine hK.out _ _ ?_
   clear hK K
   try simp only [Act.put, tdy]
   refine dS ?_ _
   go_wp2_with fail
   exact bodyPost_ret (v := .tuple #[.agg #[.bool r0, .string r1, .int .i64 r2], .agg #[.bool q0, .string q1, .int .i64 q2], .int .i64 4]) (by simp [results, results116, go_sem, e0, e1, e2, e3, e4, e5]) rfl ⟨by rw [hE0.out], (((K1.out.trans' K6.out).qaL (b := b + 1) (by have := HB.out; omega) _ _ _).qaL (b := b + 1 + 1) (by have := HB.out; omega) _ _ _).drew'⟩
 ·have hE0 := qh (show E = 4 by rw [HE.out, if_neg (fun h => h1 h.1)])
  go_wp2_with fail
  refine qab (fun W => (W.cell? ⟨g, 0, none⟩ = some (.bool r0) ∧ W.cell? ⟨g, 1, none⟩ = some (.string r1) ∧ W.cell? ⟨g, 2, none⟩ = some (.int .i64 r2)) ∧ W.cell? ⟨g2, 0, none⟩ = some (.bool q0) ∧ W.cell? ⟨g2, 1, none⟩ = some (.string q1) ∧ W.cell? ⟨g2, 2, none⟩ = some (.int .i64 q2)) [3,4] (by kernel_rfl) ?_ (fun hHeld => ?_)
  ·first | with_reducible assumption | with_reducible exact KS.out _ _ _
  refine wS 0 31 ?_
  refine wS 1 32 ?_
  refine oS 2 fun K hK => ?_
  go_simp
  refine hK.out _ _ ?_ (fun hHeld => ?_)
  ·first | with_reducible assumption | with_reducible exact KS.out _ _ _
  clear hK K
  try simp only [Act.put, tdy]
  refine eS 3 fun K hK => ?_
  go_simp
  refine hK.out _ _ ?_
  clear hK K
  try simp only [Act.put, tdy]
  refine eS 4 fun K hK => ?_
  go_simp
  refine hK.out _ _ ?_
  clear hK K
  try simp only [Act.put, tdy]
  refine dS ?_ _
  go_wp2_with fail
  exact bodyPost_ret (v := .tuple #[.agg #[.bool r0, .string r1, .int .i64 r2], .agg #[.bool q0, .string q1, .int .i64 q2], .int .i64 4]) (by simp [results, results116, go_sem, e0, e1, e2, e3, e4, e5]) rfl ⟨by rw [hE0.out], (((K1.out.trans' K6.out).qaL (b := b + 1) (by have := HB.out; omega) _ _ _).qaL (b := b + 1 + 1) (by have := HB.out; omega) _ _ _).drew'⟩
theorem qfF (s : SqD) (w : World) (hs : sqB s = true) :
  Calls prog 75 #[.agg #[.bool s.left.neg, .string s.left.n, .int .i64 s.left.e, .bool s.low.neg, .string s.low.n, .int .i64 s.low.e, .int .i64 s.e]] w fun en w' => en = .returned (qmG (qaA s)) ∧ Kept w w' := by
 have ED := qh (fun W => qg2 s W hs)
 unfold qaA
 generalize qaN s = R at *
 generalize qaZ s = Q at *
 obtain ⟨⟨a0, a1, a2⟩, ⟨a3, a4, a5⟩, a6⟩ := s
 obtain ⟨⟨r0, r1, r2⟩, r3⟩ := R
 obtain ⟨⟨q0, q1, q2⟩, q3⟩ := Q
 simp only at ED ⊢
 clear hs
 obtain ⟨E, hE⟩ : ∃ E : Int, E = if r3 = 0 ∧ q3 = 0 then 0 else 4 := ⟨_, rfl⟩
 rw [← hE] at ED
 have HE := qh hE
 clear hE
 obtain ⟨V, hV⟩ : ∃ V : Value, V = qmG (if r3 = 0 ∧ q3 = 0 then some [⟨⟨a0, a1, a2⟩, ⟨a3, a4, a5⟩⟩, ⟨⟨r0, r1, r2⟩, ⟨a3, a4, a5⟩⟩, ⟨⟨a0, a1, a2⟩, ⟨q0, q1, q2⟩⟩, ⟨⟨r0, r1, r2⟩, ⟨q0, q1, q2⟩⟩] else none) := ⟨_, rfl⟩
 rw [← hV]
 have HV := qh hV
 clear hV
 go_enter func75, ntmps75
 go_upto_region 1 with fail
 obtain ⟨b, w1, hw, hb, B0, B1, K1, HB⟩ := qa7 w (LC3 a0 a1 a2 a3 a4 a5 a6) 26 ZL1 64
 rw [← hw, ← hb]; clear hw hb
 obtain ⟨c0, c1, c2, c3, c4, c5, c6⟩ := B0.out.c7
 go_upto_region 2 with (go_at_call 116; (with_reducible refine (ED.out _).mono ?_); rintro e w3 ⟨rfl, hk3⟩)
 have K4 := qh (Kept.new (Kept.new hk3 (.cells (LC0 r0 r1 r2).toArray 24)) (.cells (LC0 q0 q1 q2).toArray 24))
 have B2 := qh ((Bx.new w3 (LC0 r0 r1 r2) 24 w3.heap.size rfl).kept (Kept.new (Below.refl _ _) (.cells (LC0 q0 q1 q2).toArray 24)))
 have B3 := qh (Bx.new (World.alloc w3 (.cells (LC0 r0 r1 r2).toArray 24)) (LC0 q0 q1 q2) 24 (w3.heap.size + 1) (by simp))
 obtain ⟨g, hg⟩ : ∃ g, g = w3.heap.size := ⟨_, rfl⟩
 rw [← hg] at B2 B3 ⊢
 clear hg hk3
 generalize (World.alloc (World.alloc w3 (.cells (LC0 r0 r1 r2).toArray 24)) (.cells (LC0 q0 q1 q2).toArray 24)) = w4 at *
 clear c0 c1 c2 c3 c4 c5 c6 ED
 by_cases hE0 : E = 0
 ·have hrq : r3 = 0 ∧ q3 = 0 := by
   have := HE.out
   rw [hE0] at this
   by_cases h : r3 = 0 ∧ q3 = 0
   ·exact h
   ·rw [if_neg h] at this; omega
  have HV2 := qh (show V = .tuple #[.agg #[.bool a0, .string a1, .int .i64 a2, .bool a3, .string a4, .int .i64 a5, .bool r0, .string r1, .int .i64 r2, .bool a3, .string a4, .int .i64 a5, .bool a0, .string a1, .int .i64 a2, .bool q0, .string q1, .int .i64 q2, .bool r0, .string r1, .int .i64 r2, .bool q0, .string q1, .int .i64 q2], .int .i64 0] by rw [HV.out, if_pos hrq]; rfl)
  subst hE0
  go_upto_region 4 with fail
  obtain ⟨c0, c1, c2, c3, c4, c5, c6⟩ := (B0.out.kept K4.out).c7
  obtain ⟨d0, d1, d2⟩ := B2.out.c3
  obtain ⟨e0, e1, e2⟩ := B3.out.c3
  refine wp_region_list ?_
  refine wpList_plain rfl fun K hK => ?_
  first | (refine BigFrame.wp_move _ rfl (hK _ _ ?_)) | (go_step; refine hK _ _ ?_)
  clear hK K
  refine wpList_plain rfl fun K hK => ?_
  first | (refine BigFrame.wp_move _ rfl (hK _ _ ?_)) | (go_step; refine hK _ _ ?_)
  clear hK K
  refine wpList_plain rfl fun K hK => ?_
  first | (refine BigFrame.wp_move _ rfl (hK _ _ ?_)) | (go_step; refine hK _ _ ?_)
  clear hK K
  refine wpList_plain rfl fun K hK => ?_
  first | (refine BigFrame.wp_move _ rfl (hK _ _ ?_)) | (go_step; refine hK _ _ ?_)
  clear hK K
  refine wpList_plain rfl fun K hK => ?_
  first | (refine BigFrame.wp_move _ rfl (hK _ _ ?_)) | (go_step; refine hK _ _ ?_)
  clear hK K
  refine wpList_plain rfl fun K hK => ?_
  first | (refine BigFrame.wp_move _ rfl (hK _ _ ?_)) | (go_step; refine hK _ _ ?_)
  clear hK K
  refine wpList_plain rfl fun K hK => ?_
  first | (refine BigFrame.wp_move _ rfl (hK _ _ ?_)) | (go_step; refine hK _ _ ?_)
  clear hK K
  refine wpList_plain rfl fun K hK => ?_
  first | (refine BigFrame.wp_move _ rfl (hK _ _ ?_)) | (go_step; refine hK _ _ ?_)
  clear hK K
  refine wpList_plain rfl fun K hK => ?_
  first | (refine BigFrame.wp_move _ rfl (hK _ _ ?_)) | (go_step; refine hK _ _ ?_)
  clear hK K
  refine wpList_plain rfl fun K hK => ?_
  first | (refine BigFrame.wp_move _ rfl (hK _ _ ?_)) | (go_step; refine hK _ _ ?_)
  clear hK K
  refine wpList_plain rfl fun K hK => ?_
  first | (refine BigFrame.wp_move _ rfl (hK _ _ ?_)) | (go_step; refine hK _ _ ?_)
  clear hK K
  refine wpList_plain rfl fun K hK => ?_
  first | (refine BigFrame.wp_move _ rfl (hK _ _ ?_)) | (go_step; refine hK _ _ ?_)
  clear hK K
  refine wpList_plain rfl fun K hK => ?_
  first | (refine BigFrame.wp_move _ rfl (hK _ _ ?_)) | (go_step; refine hK _ _ ?_)
  clear hK K
  refine wpList_plain rfl fun K hK => ?_
  first | (refine BigFrame.wp_move _ rfl (hK _ _ ?_)) | (go_step; refine hK _ _ ?_)
  clear hK K
  refine wpList_plain rfl fun K hK => ?_
  first | (refine BigFrame.wp_move _ rfl (hK _ _ ?_)) | (go_step; refine hK _ _ ?_)
  clear hK K
  refine wpList_plain rfl fun K hK => ?_
  first | (refine BigFrame.wp_move _ rfl (hK _ _ ?_)) | (go_step; refine hK _ _ ?_)
  clear hK K
  refine wpList_plain rfl fun K hK => qaK (LC4 a0 a1 a2 a3 a4 a5 r0 r1 r2 a3 a4 a5 a0 a1 a2 q0 q1 q2 r0 r1 r2 q0 q1 q2) _ _ rfl (by kernel_rfl) (hK _ _ ?_)
  clear hK K
  refine wpList_plain rfl fun K hK => qaa (b := b + 1) (n := 24) _ _ rfl rfl rfl (B1.out.kept K4.out) rfl rfl (by kernel_rfl) rfl (hK _ _ ?_)
  clear hK K
  have B9 := qh ((B1.out.kept K4.out).row (LC4 a0 a1 a2 a3 a4 a5 r0 r1 r2 a3 a4 a5 a0 a1 a2 q0 q1 q2 r0 r1 r2 q0 q1 q2))
  have K9 := qh (Kept.row (K1.out.trans' K4.out) (show w.heap.size ≤ b + 1 by have := HB.out; omega) (LC4 a0 a1 a2 a3 a4 a5 r0 r1 r2 a3 a4 a5 a0 a1 a2 q0 q1 q2 r0 r1 r2 q0 q1 q2))
  generalize World.setRow _ _ _ = w9 at *
  refine wpList_plain rfl fun K hK => ?_
  go_step
  refine hK _ _ ?_
  clear hK K
  go_wp2_with fail
  refine qbZ results75 underlying64 rfl (by kernel_rfl) rfl rfl B9.out rfl ⟨by rw [HV2.out]; rfl, K9.out⟩
 ·have hrq : ¬ (r3 = 0 ∧ q3 = 0) := fun h => hE0 (by rw [HE.out, if_pos h])
  have HE4 : E = 4 := by rw [HE.out, if_neg hrq]
  have HV2 := qh (show V = .tuple #[.agg ZL1.toArray, .int .i64 4] by rw [HV.out, if_neg hrq]; rfl)
  subst HE4
  go_upto_region 3 with fail
  refine wp_region_list (wpList_plain rfl fun K hK => qaK ZL1 _ _ rfl (by kernel_rfl) (hK _ _ ?_))
  clear hK K
  refine wpList_plain rfl fun K hK => BigFrame.wp_move _ rfl (hK _ _ ?_)
  clear hK K
  refine wpList_plain rfl fun K hK => qaa (b := b + 1) (n := 24) _ _ rfl rfl rfl (B1.out.kept K4.out) rfl rfl (by kernel_rfl) rfl (hK _ _ ?_)
  clear hK K
  have B9 := qh ((B1.out.kept K4.out).row ZL1)
  have K9 := qh (Kept.row (K1.out.trans' K4.out) (show w.heap.size ≤ b + 1 by have := HB.out; omega) ZL1)
  generalize World.setRow _ _ _ = w9 at *
  go_wp2_with fail
  refine qbZ results75 underlying64 rfl (by kernel_rfl) rfl rfl B9.out rfl ⟨by rw [HV2.out]; rfl, K9.out⟩
theorem qkm (s : SqD) (g : GsD) (w : World) (hs : sqB s = true) (hg : gsB g = true) :
  Calls prog 99 #[.agg #[.bool s.left.neg, .string s.left.n, .int .i64 s.left.e, .bool s.low.neg, .string s.low.n, .int .i64 s.low.e, .int .i64 s.e], .agg #[.bool g.re.neg, .string g.re.n, .int .i64 g.re.e, .bool g.im.neg, .string g.im.n, .int .i64 g.im.e]] w fun en w' => en = .returned (ql (qcg s g)) ∧ Kept w w' := by
 have ED := qh (fun W => qg2 s W hs)
 obtain ⟨hs1, hs2, hs3, hs4⟩ := qas.1 hs
 obtain ⟨hg1, hg2⟩ := qam.1 hg
 have hX : qad (qaN s).1 = true := qce _ _ hs1
 have hY : qad (qaZ s).1 = true := qce _ _ hs2
 have D1 := qh (fun W => qcZ s.left g.re W hs1 hg1)
 have D2 := qh (fun W => qcZ g.re (qaN s).1 W hg1 hX)
 have D3 := qh (fun W => qcZ s.low g.im W hs2 hg2)
 have D4 := qh (fun W => qcZ g.im (qaZ s).1 W hg2 hY)
 unfold qcg
 generalize qbx s.left g.re = n1 at *
 generalize qbx g.re (qaN s).1 = n2 at *
 generalize qbx s.low g.im = n3 at *
 generalize qbx g.im (qaZ s).1 = n4 at *
 generalize qaN s = R at *
 generalize qaZ s = Q at *
 obtain ⟨⟨a0, a1, a2⟩, ⟨a3, a4, a5⟩, a6⟩ := s
 obtain ⟨⟨x0, x1, x2⟩, ⟨x3, x4, x5⟩⟩ := g
 obtain ⟨⟨r0, r1, r2⟩, r3⟩ := R
 obtain ⟨⟨q0, q1, q2⟩, q3⟩ := Q
 simp only at ED D1 D2 D3 D4 ⊢
 clear hs hg hs1 hs2 hs3 hs4 hg1 hg2 hX hY
 obtain ⟨E, hE⟩ : ∃ E : Int, E = if r3 = 0 ∧ q3 = 0 then 0 else 4 := ⟨_, rfl⟩
 rw [← hE] at ED
 have HE := qh hE
 clear hE
 obtain ⟨V, hV⟩ : ∃ V : Value, V = ql (if r3 = 0 ∧ q3 = 0 then some (decide (n1 ≤ 0) && (decide (n2 ≤ 0) && (decide (n3 ≤ 0) && decide (n4 ≤ 0)))) else none) := ⟨_, rfl⟩
 rw [← hV]
 have HV := qh hV
 clear hV
 go_enter func99, ntmps99
 go_upto_region 1 with fail
 obtain ⟨b, w1, hw, hb, B0, B1, K1, HB⟩ := qa7 w (LC3 a0 a1 a2 a3 a4 a5 a6) 26 (LC1 x0 x1 x2 x3 x4 x5) 28
 rw [← hw, ← hb]; clear hw hb
 obtain ⟨c0, c1, c2, c3, c4, c5, c6⟩ := B0.out.c7
 go_upto_region 2 with (go_at_call 116; (with_reducible refine (ED.out _).mono ?_); rintro e w3 ⟨rfl, hk3⟩)
 have K4 := qh (Kept.new (Kept.new hk3 (.cells (LC0 r0 r1 r2).toArray 24)) (.cells (LC0 q0 q1 q2).toArray 24))
 have B2 := qh ((Bx.new w3 (LC0 r0 r1 r2) 24 w3.heap.size rfl).kept (Kept.new (Below.refl _ _) (.cells (LC0 q0 q1 q2).toArray 24)))
 have B3 := qh (Bx.new (World.alloc w3 (.cells (LC0 r0 r1 r2).toArray 24)) (LC0 q0 q1 q2) 24 (w3.heap.size + 1) (by simp))
 obtain ⟨g, hg⟩ : ∃ g, g = w3.heap.size := ⟨_, rfl⟩
 rw [← hg] at B2 B3 ⊢
 clear hg hk3
 generalize (World.alloc (World.alloc w3 (.cells (LC0 r0 r1 r2).toArray 24)) (.cells (LC0 q0 q1 q2).toArray 24)) = w4 at *
 clear c0 c1 c2 c3 c4 c5 c6 ED
 by_cases hE0 : E = 0
 ·have hrq : r3 = 0 ∧ q3 = 0 := by
   have := HE.out
   rw [hE0] at this
   by_cases h : r3 = 0 ∧ q3 = 0
   ·exact h
   ·rw [if_neg h] at this; omega
  have HV2 := qh (show V = .tuple #[.bool (decide (n1 ≤ 0) && (decide (n2 ≤ 0) && (decide (n3 ≤ 0) && decide (n4 ≤ 0)))), .int .i64 0] by rw [HV.out, if_pos hrq]; rfl)
  subst hE0
  clear hrq HE
  have SK : Hid (∀ W, Kept w4 W → ((W.cell? ⟨b, 0, none⟩ = some (.bool a0) ∧ W.cell? ⟨b, 1, none⟩ = some (.string a1) ∧ W.cell? ⟨b, 2, none⟩ = some (.int .i64 a2) ∧ W.cell? ⟨b, 3, none⟩ = some (.bool a3) ∧ W.cell? ⟨b, 4, none⟩ = some (.string a4) ∧ W.cell? ⟨b, 5, none⟩ = some (.int .i64 a5) ∧ W.cell? ⟨b, 6, none⟩ = some (.int .i64 a6)) ∧ W.cell? ⟨b + 1, 0, none⟩ = some (.bool x0) ∧ W.cell? ⟨b + 1, 1, none⟩ = some (.string x1) ∧ W.cell? ⟨b + 1, 2, none⟩ = some (.int .i64 x2) ∧ W.cell? ⟨b + 1, 3, none⟩ = some (.bool x3) ∧ W.cell? ⟨b + 1, 4, none⟩ = some (.string x4) ∧ W.cell? ⟨b + 1, 5, none⟩ = some (.int .i64 x5)) ∧ (W.cell? ⟨g, 0, none⟩ = some (.bool r0) ∧ W.cell? ⟨g, 1, none⟩ = some (.string r1) ∧ W.cell? ⟨g, 2, none⟩ = some (.int .i64 r2)) ∧ W.cell? ⟨g + 1, 0, none⟩ = some (.bool q0) ∧ W.cell? ⟨g + 1, 1, none⟩ = some (.string q1) ∧ W.cell? ⟨g + 1, 2, none⟩ = some (.int .i64 q2)) := fun W h => ⟨⟨((B0.out.kept K4.out).kept h).c7, ((B1.out.kept K4.out).kept h).c6⟩, (B2.out.kept h).c3, (B3.out.kept h).c3⟩
  obtain ⟨⟨⟨c0, c1, c2, c3, c4, c5, c6⟩, d0, d1, d2, d3, d4, d5⟩, ⟨e0, e1, e2⟩, f0, f1, f2⟩ := SK.out _ (Below.refl _ _)
  go_wp2_with fail
  (with_reducible refine (D1.out _).mono ?_)
  rintro e w5 ⟨rfl, hk⟩
  have K5 := qh (hk)
  clear hk
  clear c0 c1 c2 c3 c4 c5 c6 d0 d1 d2 d3 d4 d5 e0 e1 e2 f0 f1 f2
  obtain ⟨⟨⟨c0, c1, c2, c3, c4, c5, c6⟩, d0, d1, d2, d3, d4, d5⟩, ⟨e0, e1, e2⟩, f0, f1, f2⟩ := SK.out _ K5.out
  by_cases h1 : n1 ≤ 0
  ·have H1 := qh h1
   go_wp2_with fail
   (with_reducible refine (D2.out _).mono ?_)
   rintro e w6 ⟨rfl, hk⟩
   have K6 := qh (K5.out.trans' hk)
   clear hk
   clear c0 c1 c2 c3 c4 c5 c6 d0 d1 d2 d3 d4 d5 e0 e1 e2 f0 f1 f2
   obtain ⟨⟨⟨c0, c1, c2, c3, c4, c5, c6⟩, d0, d1, d2, d3, d4, d5⟩, ⟨e0, e1, e2⟩, f0, f1, f2⟩ := SK.out _ K6.out
   by_cases h2 : n2 ≤ 0
   ·have H2 := qh h2
    go_wp2_with fail
    (with_reducible refine (D3.out _).mono ?_)
    rintro e w7 ⟨rfl, hk⟩
    have K7 := qh (K6.out.trans' hk)
    clear hk
    clear c0 c1 c2 c3 c4 c5 c6 d0 d1 d2 d3 d4 d5 e0 e1 e2 f0 f1 f2
    obtain ⟨⟨⟨c0, c1, c2, c3, c4, c5, c6⟩, d0, d1, d2, d3, d4, d5⟩, ⟨e0, e1, e2⟩, f0, f1, f2⟩ := SK.out _ K7.out
    by_cases h3 : n3 ≤ 0
    ·have H3 := qh h3
     go_wp2_with fail
     (with_reducible refine (D4.out _).mono ?_)
     rintro e w8 ⟨rfl, hk⟩
     have K8 := qh (K7.out.trans' hk)
     clear hk
     by_cases h4 : n4 ≤ 0
     ·have H4 := qh h4
      go_wp2_with fail
      exact bodyPost_ret (v := .tuple #[.bool true, .int .i64 0]) (by simp [results, results99, go_sem]) rfl ⟨by rw [HV2.out, decide_eq_true H1.out, decide_eq_true H2.out, decide_eq_true H3.out, decide_eq_true H4.out]; rfl, (K1.out.trans' K4.out).trans' K8.out⟩
     ·have H4 := qh h4
      go_wp2_with fail
      exact bodyPost_ret (v := .tuple #[.bool false, .int .i64 0]) (by simp [results, results99, go_sem]; have := H4.out; omega) rfl ⟨by rw [HV2.out, decide_eq_true H1.out, decide_eq_true H2.out, decide_eq_true H3.out, decide_eq_false (show ¬ n4 ≤ 0 by have := H4.out; omega)]; rfl, (K1.out.trans' K4.out).trans' K8.out⟩
    ·have H3 := qh h3
     go_wp2_with fail
     exact bodyPost_ret (v := .tuple #[.bool false, .int .i64 0]) (by simp [results, results99, go_sem]) rfl ⟨by rw [HV2.out, decide_eq_true H1.out, decide_eq_true H2.out, decide_eq_false (show ¬ n3 ≤ 0 by have := H3.out; omega)]; rfl, (K1.out.trans' K4.out).trans' K7.out⟩
   ·have H2 := qh h2
    go_wp2_with fail
    exact bodyPost_ret (v := .tuple #[.bool false, .int .i64 0]) (by simp [results, results99, go_sem]) rfl ⟨by rw [HV2.out, decide_eq_true H1.out, decide_eq_false (show ¬ n2 ≤ 0 by have := H2.out; omega)]; rfl, (K1.out.trans' K4.out).trans' K6.out⟩
  ·have H1 := qh h1
   go_wp2_with fail
   exact bodyPost_ret (v := .tuple #[.bool false, .int .i64 0]) (by simp [results, results99, go_sem]) rfl ⟨by rw [HV2.out, decide_eq_false (show ¬ n1 ≤ 0 by have := H1.out; omega)]; rfl, (K1.out.trans' K4.out).trans' K5.out⟩
 ·have hrq : ¬ (r3 = 0 ∧ q3 = 0) := fun h => hE0 (by rw [HE.out, if_pos h])
  have HV2 := qh (show V = .tuple #[.bool false, .int .i64 4] by rw [HV.out, if_neg hrq]; rfl)
  clear hrq
  go_wp2_with fail
  exact bodyPost_ret (v := .tuple #[.bool false, .int .i64 4]) (by simp [results, results99, go_sem]) rfl ⟨by rw [HV2.out], K1.out.trans' K4.out⟩
def qb6 (s : SqD) : List Value := (LC3 s.left.neg s.left.n s.left.e s.low.neg s.low.n s.low.e s.e)
def qex (l : Option (List SqD)) (v : Value) : Prop := match l with
 | none => ∃ e : Int, e ≠ 0 ∧ v = .tuple #[.agg ZL2.toArray, .int .i64 e]
 | some l => v = .tuple #[.agg (l.flatMap qb6).toArray, .int .i64 0]
theorem qky (s : SqD) (w : World) (hs : sqB s = true) :
  Calls prog 87 #[.agg #[.bool s.left.neg, .string s.left.n, .int .i64 s.left.e, .bool s.low.neg, .string s.low.n, .int .i64 s.low.e, .int .i64 s.e]] w fun en w' => ∃ v, en = .returned v ∧ qex (qbp s) v ∧ Kept w w' := by
 have MID := qh (fun W => qep s W hs)
 obtain ⟨-, -, hs3, hs4⟩ := qas.1 hs
 have HM : (qbu s).2 = 0 ∨ qbu s = (zG, 4) := qeG _ _
 unfold qbp
 generalize qbu s = M at *
 obtain ⟨⟨a0, a1, a2⟩, ⟨a3, a4, a5⟩, a6⟩ := s
 obtain ⟨⟨⟨m0, m1, m2⟩, ⟨m3, m4, m5⟩⟩, m6⟩ := M
 simp only at MID HM hs3 hs4 ⊢
 have hm : m6 = 0 ∨ m6 = 4 := HM.imp id (fun h => (Prod.mk.inj h).2)
 clear hs HM
 obtain ⟨L, hL⟩ : ∃ L : Option (List SqD), L = if a6 = -4096 then none else if m6 = 0 then some [⟨⟨a0, a1, a2⟩, ⟨a3, a4, a5⟩, a6 - 1⟩, ⟨⟨m0, m1, m2⟩, ⟨a3, a4, a5⟩, a6 - 1⟩, ⟨⟨a0, a1, a2⟩, ⟨m3, m4, m5⟩, a6 - 1⟩, ⟨⟨m0, m1, m2⟩, ⟨m3, m4, m5⟩, a6 - 1⟩] else none := ⟨_, rfl⟩
 rw [← hL]
 have HL := qh hL
 clear hL
 by_cases h1 : a6 = -4096
 ·subst h1
  go_enter func87, ntmps87
  go_upto_region 1 with fail
  obtain ⟨b, w1, hw, hb, B0, B1, K1, HB⟩ := qa7 w (LC3 a0 a1 a2 a3 a4 a5 (-4096)) 26 ZL2 141
  rw [← hw, ← hb]; clear hw hb
  obtain ⟨c0, c1, c2, c3, c4, c5, c6⟩ := B0.out.c7
  go_upto_region 2 with fail
  refine wp_region_list (wpList_plain rfl fun K hK => qaK ZL2 _ _ rfl (by kernel_rfl) (hK _ _ ?_))
  clear hK K
  refine wpList_plain rfl fun K hK => qaa (b := b + 1) (n := 28) _ _ rfl rfl rfl B1.out rfl rfl (by kernel_rfl) rfl (hK _ _ ?_)
  clear hK K
  have B9 := qh (B1.out.row ZL2)
  have K9 := qh (Kept.row K1.out (show w.heap.size ≤ b + 1 by have := HB.out; omega) ZL2)
  generalize World.setRow _ _ _ = w9 at *
  go_wp2_with fail
  refine qbZ results87 underlying141 rfl (by kernel_rfl) rfl rfl B9.out rfl ⟨_, rfl, by (first | rw [HL.out, if_pos rfl] | rw [HL.out]); exact ⟨240, by omega, rfl⟩, K9.out⟩
 ·have hh : IntKind.i64.wrap (a6 - 1) = a6 - 1 := IntWalk.i64_in _ (by omega)
  have H1 := qh h1
  go_enter func87, ntmps87
  go_upto_region 1 with fail
  obtain ⟨b, w1, hw, hb, B0, B1, K1, HB⟩ := qa7 w (LC3 a0 a1 a2 a3 a4 a5 a6) 26 ZL2 141
  rw [← hw, ← hb]; clear hw hb
  obtain ⟨c0, c1, c2, c3, c4, c5, c6⟩ := B0.out.c7
  go_upto_region 4 with (go_at_call 76; (with_reducible refine (MID.out _).mono ?_); rintro e w3 ⟨rfl, hk3⟩)
  have K4 := qh (Kept.new hk3 (.cells (LC1 m0 m1 m2 m3 m4 m5).toArray 28))
  have B2 := qh (Bx.new w3 (LC1 m0 m1 m2 m3 m4 m5) 28 w3.heap.size rfl)
  obtain ⟨g, hg⟩ : ∃ g, g = w3.heap.size := ⟨_, rfl⟩
  rw [← hg] at B2 ⊢
  clear hg hk3
  generalize (w3.alloc (.cells (LC1 m0 m1 m2 m3 m4 m5).toArray 28)) = w4 at *
  clear c0 c1 c2 c3 c4 c5 c6 MID
  rcases hm with rfl | rfl
  ·obtain ⟨c0, c1, c2, c3, c4, c5, c6⟩ := (B0.out.kept K4.out).c7
   obtain ⟨d0, d1, d2, d3, d4, d5⟩ := B2.out.c6
   go_upto_region 7 with fail
   refine wp_region_list ?_
   refine wpList_plain rfl fun K hK => ?_
   first | (refine BigFrame.wp_move _ rfl (hK _ _ ?_)) | (go_step; refine hK _ _ ?_)
   clear hK K
   refine wpList_plain rfl fun K hK => ?_
   first | (refine BigFrame.wp_move _ rfl (hK _ _ ?_)) | (go_step; refine hK _ _ ?_)
   clear hK K
   refine wpList_plain rfl fun K hK => ?_
   first | (refine BigFrame.wp_move _ rfl (hK _ _ ?_)) | (go_step; refine hK _ _ ?_)
   clear hK K
   refine wpList_plain rfl fun K hK => ?_
   first | (refine BigFrame.wp_move _ rfl (hK _ _ ?_)) | (go_step; refine hK _ _ ?_)
   clear hK K
   refine wpList_plain rfl fun K hK => ?_
   first | (refine BigFrame.wp_move _ rfl (hK _ _ ?_)) | (go_step; refine hK _ _ ?_)
   clear hK K
   refine wpList_plain rfl fun K hK => ?_
   first | (refine BigFrame.wp_move _ rfl (hK _ _ ?_)) | (go_step; refine hK _ _ ?_)
   clear hK K
   refine wpList_plain rfl fun K hK => ?_
   first | (refine BigFrame.wp_move _ rfl (hK _ _ ?_)) | (go_step; refine hK _ _ ?_)
   clear hK K
   refine wpList_plain rfl fun K hK => ?_
   first | (refine BigFrame.wp_move _ rfl (hK _ _ ?_)) | (go_step; refine hK _ _ ?_)
   clear hK K
   refine wpList_plain rfl fun K hK => ?_
   first | (refine BigFrame.wp_move _ rfl (hK _ _ ?_)) | (go_step; refine hK _ _ ?_)
   clear hK K
   refine wpList_plain rfl fun K hK => ?_
   first | (refine BigFrame.wp_move _ rfl (hK _ _ ?_)) | (go_step; refine hK _ _ ?_)
   clear hK K
   refine wpList_plain rfl fun K hK => ?_
   first | (refine BigFrame.wp_move _ rfl (hK _ _ ?_)) | (go_step; refine hK _ _ ?_)
   clear hK K
   refine wpList_plain rfl fun K hK => ?_
   first | (refine BigFrame.wp_move _ rfl (hK _ _ ?_)) | (go_step; refine hK _ _ ?_)
   clear hK K
   refine wpList_plain rfl fun K hK => ?_
   first | (refine BigFrame.wp_move _ rfl (hK _ _ ?_)) | (go_step; refine hK _ _ ?_)
   clear hK K
   refine wpList_plain rfl fun K hK => ?_
   first | (refine BigFrame.wp_move _ rfl (hK _ _ ?_)) | (go_step; refine hK _ _ ?_)
   clear hK K
   refine wpList_plain rfl fun K hK => ?_
   first | (refine BigFrame.wp_move _ rfl (hK _ _ ?_)) | (go_step; refine hK _ _ ?_)
   clear hK K
   refine wpList_plain rfl fun K hK => ?_
   first | (refine BigFrame.wp_move _ rfl (hK _ _ ?_)) | (go_step; refine hK _ _ ?_)
   clear hK K
   refine wpList_plain rfl fun K hK => ?_
   first | (refine BigFrame.wp_move _ rfl (hK _ _ ?_)) | (go_step; refine hK _ _ ?_)
   clear hK K
   refine wpList_plain rfl fun K hK => ?_
   first | (refine BigFrame.wp_move _ rfl (hK _ _ ?_)) | (go_step; refine hK _ _ ?_)
   clear hK K
   refine wpList_plain rfl fun K hK => ?_
   first | (refine BigFrame.wp_move _ rfl (hK _ _ ?_)) | (go_step; refine hK _ _ ?_)
   clear hK K
   refine wpList_plain rfl fun K hK => ?_
   first | (refine BigFrame.wp_move _ rfl (hK _ _ ?_)) | (go_step; refine hK _ _ ?_)
   clear hK K
   refine wpList_plain rfl fun K hK => ?_
   first | (refine BigFrame.wp_move _ rfl (hK _ _ ?_)) | (go_step; refine hK _ _ ?_)
   clear hK K
   refine wpList_plain rfl fun K hK => ?_
   first | (refine BigFrame.wp_move _ rfl (hK _ _ ?_)) | (go_step; refine hK _ _ ?_)
   clear hK K
   refine wpList_plain rfl fun K hK => ?_
   first | (refine BigFrame.wp_move _ rfl (hK _ _ ?_)) | (go_step; refine hK _ _ ?_)
   clear hK K
   refine wpList_plain rfl fun K hK => ?_
   first | (refine BigFrame.wp_move _ rfl (hK _ _ ?_)) | (go_step; refine hK _ _ ?_)
   clear hK K
   refine wpList_plain rfl fun K hK => qaK (LC5 a0 a1 a2 a3 a4 a5 (a6 - 1) m0 m1 m2 a3 a4 a5 (a6 - 1) a0 a1 a2 m3 m4 m5 (a6 - 1) m0 m1 m2 m3 m4 m5 (a6 - 1)) _ _ rfl (by kernel_rfl) (hK _ _ ?_)
   clear hK K
   refine wpList_plain rfl fun K hK => qaa (b := b + 1) (n := 28) _ _ rfl rfl rfl (B1.out.kept K4.out) rfl rfl (by kernel_rfl) rfl (hK _ _ ?_)
   clear hK K
   have B9 := qh ((B1.out.kept K4.out).row (LC5 a0 a1 a2 a3 a4 a5 (a6 - 1) m0 m1 m2 a3 a4 a5 (a6 - 1) a0 a1 a2 m3 m4 m5 (a6 - 1) m0 m1 m2 m3 m4 m5 (a6 - 1)))
   have K9 := qh (Kept.row (K1.out.trans' K4.out) (show w.heap.size ≤ b + 1 by have := HB.out; omega) (LC5 a0 a1 a2 a3 a4 a5 (a6 - 1) m0 m1 m2 a3 a4 a5 (a6 - 1) a0 a1 a2 m3 m4 m5 (a6 - 1) m0 m1 m2 m3 m4 m5 (a6 - 1)))
   generalize World.setRow _ _ _ = w9 at *
   refine wpList_plain rfl fun K hK => ?_
   go_step
   refine hK _ _ ?_
   clear hK K
   go_wp2_with fail
   refine qbZ results87 underlying141 rfl (by kernel_rfl) rfl rfl B9.out rfl ⟨_, rfl, by (first | rw [HL.out, if_neg H1.out, if_pos rfl] | rw [HL.out, if_neg H1.out] | rw [HL.out]); rfl, K9.out⟩
  ·go_upto_region 5 with fail
   refine wp_region_list (wpList_plain rfl fun K hK => qaK ZL2 _ _ rfl (by kernel_rfl) (hK _ _ ?_))
   clear hK K
   refine wpList_plain rfl fun K hK => BigFrame.wp_move _ rfl (hK _ _ ?_)
   clear hK K
   refine wpList_plain rfl fun K hK => qaa (b := b + 1) (n := 28) _ _ rfl rfl rfl (B1.out.kept K4.out) rfl rfl (by kernel_rfl) rfl (hK _ _ ?_)
   clear hK K
   have B9 := qh ((B1.out.kept K4.out).row ZL2)
   have K9 := qh (Kept.row (K1.out.trans' K4.out) (show w.heap.size ≤ b + 1 by have := HB.out; omega) ZL2)
   generalize World.setRow _ _ _ = w9 at *
   go_wp2_with fail
   refine qbZ results87 underlying141 rfl (by kernel_rfl) rfl rfl B9.out rfl ⟨_, rfl, by (first | rw [HL.out, if_neg H1.out, if_neg (by omega)] | rw [HL.out, if_neg H1.out] | rw [HL.out]); exact ⟨4, by omega, rfl⟩, K9.out⟩
end
section
attribute [local go_sem] run_float_arith qaI qaJ qau qah qae
attribute [local go_sem] Oper.semAt_some
theorem qmC (x r : Nat) (h : FloatKind.f64.format.sqrt x = some r) (w : World) : (callFunc 128 #[.float .f64 x]).run prog w = .ok (.value (.float .f64 r)) w := by
 refine (Go.run_callFunc_extern (e := Extern.MathSqrt.sqrt) func128 (by kernel_rfl) (by kernel_rfl) (by kernel_rfl) (by kernel_rfl) _ w).trans ?_
 have e : Extern.MathSqrt.sqrt #[.float .f64 x] = pure (.float .f64 r) := by
  show (match FloatKind.f64.format.sqrt x with
   | some r => pure (.float .f64 r)
   | none => do pure (.float .f64 (← choose (.nanBits .f64 x x))) : Sem Value) = _
  rw [h]
 rw [e]; rfl
theorem qmr {x : Nat} (h : x ≤ qaP) : ∃ r, FloatKind.f64.format.sqrt x = some r := by
 have key : ∃ d, (Ieee.double.read x).root (Ieee.double.fractionBits + 2) = some d := by
  by_cases h1 : x = qaP
  ·rw [h1, qjl (by decide)]
   exact ⟨_, rfl⟩
  ·have h2 : x < qaP := by omega
   have hb := qgw
   rw [qcF (by omega) (by unfold qbQ; rw [Nat.mod_eq_of_lt (by omega)]; exact decide_eq_true h2)]
   rw [decide_eq_false (by unfold SG; omega)]
   unfold Ieee.Datum.root
   split
   ·rename_i hd; cases hd
   ·rename_i hd; cases hd
   ·rename_i s m i hd
    injection hd with e1 e2 e3
    subst e1
    split
    ·exact ⟨_, rfl⟩
    ·exact ⟨_, rfl⟩
 obtain ⟨d, hd⟩ := key
 refine ⟨Ieee.double.write d, ?_⟩
 show ((Ieee.double.read x).root (Ieee.double.fractionBits + 2)).map Ieee.double.write = _
 rw [hd]; rfl
theorem qmd {d : DyD} (hd : qad d = true) (h : 0 ≤ d.num) : qaQ d ≤ qaP := by
 by_cases h0 : d.num = 0
 ·rw [(qag hd).2.1 h0]; decide
 ·obtain ⟨p, hp⟩ := qdh d.num.natAbs
  rw [qe5 h0 hp, qcp hd, decide_eq_false (by omega), qdw]
  exact qgx _ _
set_option maxRecDepth 100000 in
set_option maxHeartbeats 3200000 in
theorem qlV (x r : Nat) (h : FloatKind.f64.format.sqrt x = some r) (w : World) : Calls prog 84 #[.float .f64 x] w fun e w' => e = .returned (.float .f64 r) ∧ w' = w := by
 have H := qmC x r h
 go_enter func84, ntmps84
 go_wp2_with fail
 go_ret
 exact ⟨rfl, rfl⟩
theorem qdY {d : DyD} (hd : qad d = true) : qaQ d < 18446744073709551616 := by
 by_cases h0 : d.num = 0
 ·rw [(qag hd).2.1 h0]; decide
 ·obtain ⟨p, hp⟩ := qdh d.num.natAbs
  rw [qe5 h0 hp]
  have h1 := qgx (qbc d.num.natAbs d.e (qan p d.e)) (qan p d.e)
  have h2 := qgw
  cases d.neg
  ·rw [qdw]; omega
  ·rw [show ∀ x, Ieee.double.word true x = 9223372036854775808 + x from fun _ => rfl]; omega
theorem qg8 {x : Nat} (h : ¬ qbQ x = true) : qa9 x = (zD, 5) := by unfold qa9; rw [if_neg h]
theorem qiu (x y : Nat) : gsB (qbE x y).1 = true := by
 unfold qbE; split
 ·exact qam.2 ⟨qfj x, qfj y⟩
 ·rfl
theorem qiG (x y : Nat) : ((qbQ x && qbQ y) = true → (qbE x y).2 = 0) ∧ ((qbE x y).2 = 0 → (qbQ x && qbQ y) = true ∧ (⟨(qa9 x).1, (qa9 y).1⟩ : GsD) = (qbE x y).1) := by
 unfold qbE
 refine ⟨fun h => ?_, fun h => ?_⟩
 ·rw [Bool.and_eq_true] at h
  rw [if_pos ⟨qgU h.1, qgU h.2⟩]
 ·by_cases h1 : (qa9 x).2 = 0 ∧ (qa9 y).2 = 0
  ·rw [if_pos h1]
   refine ⟨?_, rfl⟩
   rw [Bool.and_eq_true]
   constructor
   ·by_cases h2 : qbQ x = true
    ·exact h2
    ·rw [qg8 h2] at h1; exact absurd h1.1 (by decide)
   ·by_cases h2 : qbQ y = true
    ·exact h2
    ·rw [qg8 h2] at h1; exact absurd h1.2 (by decide)
  ·rw [if_neg h1] at h; exact absurd h (by decide)
theorem qeo {z e : Int} (h : 0 ≤ z) : 0 ≤ (qbh z e).1.num := by
 unfold qbh
 split
 ·exact Int.le_refl _
 ·split
  ·rw [qoe]
   exact Int.mul_nonneg (by rcases Int.lt_trichotomy z 0 with h1 | h1 | h1; omega; rw [h1]; decide; rw [Int.sign_eq_one_of_pos h1]; decide) (Int.natCast_nonneg _)
  ·exact Int.le_refl _
theorem qiN {a b : DyD} (ha : 0 ≤ a.num) (hb : 0 ≤ b.num) : 0 ≤ (qaS a b).1.num := by
 unfold qaS
 split
 ·exact hb
 ·split
  ·exact ha
  ·split
   ·exact Int.le_refl _
   ·exact qeo (Int.add_nonneg (Int.mul_nonneg ha (Int.le_of_lt (Int.pow_pos (by omega)))) (Int.mul_nonneg hb (Int.le_of_lt (Int.pow_pos (by omega)))))
theorem qic (g : GsD) : 0 ≤ (qbX g).1.num := by
 unfold qbX twoS
 split
 ·refine qiN (qeo ?_) (qeo ?_)
  ·rcases Int.lt_trichotomy g.re.num 0 with h | h | h
   ·exact Int.le_of_lt (Int.mul_pos_of_neg_of_neg h h)
   ·rw [h]; decide
   ·exact Int.le_of_lt (Int.mul_pos h h)
  ·rcases Int.lt_trichotomy g.im.num 0 with h | h | h
   ·exact Int.le_of_lt (Int.mul_pos_of_neg_of_neg h h)
   ·rw [h]; decide
   ·exact Int.le_of_lt (Int.mul_pos h h)
 ·exact Int.le_refl _
end
end Go.Proofs.YtfdnledkcongaaaGreatDoor
