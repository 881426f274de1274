/- Texts of one claim laid together: VrD, Tre, Ord, TelA, TelB. -/
import Derived.Test.YtfdnledkcongaaaGreatDoorQ8
set_option linter.all false
namespace Go.Proofs.YtfdnledkcongaaaGreatDoor
open Go.RowKit Go.Proofs.Tryz
section
set_option maxHeartbeats 25600000
set_option maxRecDepth 100000
attribute [local go_sem] run_float_arith qaI qaJ qau qah qae
theorem qjo (s : SqD) (w : World) (hs : sqB s = true) (hc : qaA s = none) :
  Calls prog 41 #[.agg #[.bool s.left.neg, .string s.left.n, .int .i64 s.left.e, .bool s.low.neg, .string s.low.n, .int .i64 s.low.e, .int .i64 s.e]] w fun en w' => ∃ c1 c2 r : Nat, c1 < 18446744073709551616 ∧ c2 < 18446744073709551616 ∧ r < 18446744073709551616 ∧ en = .returned (.tuple #[.agg #[.complex .f64 c1 c2, .float .f64 r], .int .i64 (qaj s).2]) ∧ Kept w w' := by
 have HE := qh (show (qaj s).2 = 4 by unfold qaj; rw [hc])
 have CO := qh (fun W => qfF s W hs)
 have MID := qh (fun W => qep s W hs)
 rw [hc] at CO
 rw [HE.out]
 generalize qbu s = M at *
 obtain ⟨⟨a0, a1, a2⟩, ⟨a3, a4, a5⟩, a6⟩ := s
 obtain ⟨⟨⟨m0, m1, m2⟩, ⟨m3, m4, m5⟩⟩, m6⟩ := M
 simp only at CO MID ⊢
 clear hs hc
 go_enter func41, ntmps41
 go_upto_region 1 with fail
 obtain ⟨b, w1, hw, hb, B0, B1, K1, HB⟩ := qa7 w (LC3 a0 a1 a2 a3 a4 a5 a6) 26 [.complex .f64 0 0, .float .f64 0] 85
 rw [← hw, ← hb]; clear hw hb
 obtain ⟨c0, c1, c2, c3, c4, c5, c6⟩ := B0.out.c7
 clear c0 c1 c2 c3 c4 c5 c6
 refine wp_region_list ?_
 refine wpList_plain rfl fun K hK => qai (b := b) (n := 7) _ rfl rfl B0.out rfl underlying26 rfl (by kernel_rfl) (hK _ _ ?_)
 clear hK K
 refine wpList_plain rfl fun K hK => ?_
 go_step
 (with_reducible refine (CO.out _).mono ?_); rintro e w3 ⟨rfl, hk3⟩
 refine hK _ _ ?_
 clear hK K CO
 refine wpList_plain rfl fun K hK => BigFrame.wp_move _ rfl (hK _ _ ?_)
 clear hK K
 refine wpList_plain rfl fun K hK => ?_
 go_step
 refine hK _ _ ?_
 clear hK K
 refine wpList_plain rfl fun K hK => ?_
 go_step
 refine hK _ _ ?_
 clear hK K
 refine wpList_plain rfl fun K hK => ?_
 go_step
 refine hK _ _ ?_
 clear hK K
 have HG := qh (show w1.heap.size ≤ w3.heap.size from hk3.size)
 have K4 := qh (Kept.new hk3 (.cells ZL1.toArray 64))
 have B2 := qh (Bx.new w3 ZL1 64 w3.heap.size rfl)
 obtain ⟨g, hg⟩ : ∃ g, g = w3.heap.size := ⟨_, rfl⟩
 rw [← hg] at B2 HG ⊢
 clear hg hk3
 generalize World.alloc w3 _ = w4 at *
 refine wpList_plain rfl fun K hK => qaa (b := g) (n := 24) _ _ rfl rfl rfl B2.out rfl rfl (by kernel_rfl) rfl (hK _ _ ?_)
 clear hK K
 replace B2 := qh (B2.out.row ZL1)
 replace K4 := qh (Kept.row K4.out HG.out ZL1)
 generalize World.setRow w4 _ _ = w5 at *
 refine wpList_plain rfl fun K hK => ?_
 go_step
 refine hK _ _ ?_
 clear hK K
 obtain ⟨c0, c1, c2, c3, c4, c5, c6⟩ := (B0.out.kept K4.out).c7
 go_upto_region 3 with (go_at_call 76; (with_reducible refine (MID.out _).mono ?_); rintro e w6 ⟨rfl, hk6⟩)
 have K7 := qh (Kept.new (K4.out.trans' hk6) (.cells (LC1 m0 m1 m2 m3 m4 m5).toArray 28))
 have B3 := qh (Bx.new w6 (LC1 m0 m1 m2 m3 m4 m5) 28 w6.heap.size rfl)
 replace B2 := qh ((B2.out.kept hk6).kept (Kept.new (Below.refl _ _) (.cells (LC1 m0 m1 m2 m3 m4 m5).toArray 28)))
 obtain ⟨g2, hg⟩ : ∃ g, g = w6.heap.size := ⟨_, rfl⟩
 rw [← hg] at B3 ⊢
 clear hg hk6
 generalize (w6.alloc (.cells (LC1 m0 m1 m2 m3 m4 m5).toArray 28)) = w7 at *
 clear c0 c1 c2 c3 c4 c5 c6 MID
 obtain ⟨re0, re1⟩ : (World.cell? _ ⟨b + 1, 0, none⟩ = some (.complex .f64 0 0)) ∧ (World.cell? _ ⟨b + 1, 1, none⟩ = some (.float .f64 0)) := ⟨(B1.out.kept K7.out).c 0 rfl, (B1.out.kept K7.out).c 1 rfl⟩
 obtain ⟨rf0, rf1⟩ : (World.frozen? _ ⟨b + 1, 0, none⟩ = false) ∧ (World.frozen? _ ⟨b + 1, 1, none⟩ = false) := ⟨(B1.out.kept K7.out).f 0, (B1.out.kept K7.out).f 1⟩
 go_wp2_with fail
 exact bodyPost_ret (v := .tuple #[.agg #[.complex .f64 0 0, .float .f64 0], .int .i64 4]) (by simp [results, results41, go_sem, re0, re1]) rfl ⟨0, 0, 0, by decide, by decide, by decide, rfl, ((K1.out.trans' K7.out).set (b := b + 1) (by have := HB.out; omega) 0 _).set (b := b + 1) (by have := HB.out; omega) 1 _⟩
theorem qjq (s : SqD) (X Y : DyD) (w : World) (hs : sqB s = true) (hX : qad X = true) (hY : qad Y = true) (hc : qaA s = some [⟨s.left, s.low⟩, ⟨X, s.low⟩, ⟨s.left, Y⟩, ⟨X, Y⟩]) :
  Calls prog 41 #[.agg #[.bool s.left.neg, .string s.left.n, .int .i64 s.left.e, .bool s.low.neg, .string s.low.n, .int .i64 s.low.e, .int .i64 s.e]] w fun en w' => ∃ c1 c2 r : Nat, c1 < 18446744073709551616 ∧ c2 < 18446744073709551616 ∧ r < 18446744073709551616 ∧ en = .returned (.tuple #[.agg #[.complex .f64 c1 c2, .float .f64 r], .int .i64 (qaj s).2]) ∧ Kept w w' := by
 have CO : Hid (∀ W, Calls prog 75 #[.agg #[.bool s.left.neg, .string s.left.n, .int .i64 s.left.e, .bool s.low.neg, .string s.low.n, .int .i64 s.low.e, .int .i64 s.e]] W fun en w' => en = .returned (.tuple #[.agg #[.bool s.left.neg, .string s.left.n, .int .i64 s.left.e, .bool s.low.neg, .string s.low.n, .int .i64 s.low.e, .bool X.neg, .string X.n, .int .i64 X.e, .bool s.low.neg, .string s.low.n, .int .i64 s.low.e, .bool s.left.neg, .string s.left.n, .int .i64 s.left.e, .bool Y.neg, .string Y.n, .int .i64 Y.e, .bool X.neg, .string X.n, .int .i64 X.e, .bool Y.neg, .string Y.n, .int .i64 Y.e], .int .i64 0]) ∧ Kept W w') := fun W => by
  have := qfF s W hs
  rwa [hc] at this
 have MID := qh (fun W => qep s W hs)
 have HM : (qbu s).2 = 0 ∨ qbu s = (zG, 4) := qeG _ _
 have hMo : gsB (qbu s).1 = true := qgu hs
 obtain ⟨hs1, hs2, -, -⟩ := qas.1 hs
 have NEAR := qh (fun W => qks (qbu s).1 W hMo)
 have hP : qaQ (qbu s).1.re < 18446744073709551616 := qdY (qam.1 hMo).1
 have hQ : qaQ (qbu s).1.im < 18446744073709551616 := qdY (qam.1 hMo).2
 have CPX := qh (fun W => qfm _ _ W hP hQ)
 obtain ⟨E, hE⟩ : ∃ E, E = (qaj s).2 := ⟨_, rfl⟩
 rw [← hE]
 suffices key : ∀ PQ : Ending → World → Prop, (∀ (e : Int) (c1 c2 r : Nat) (W : World), e = E → c1 < 18446744073709551616 → c2 < 18446744073709551616 → r < 18446744073709551616 → Kept w W → PQ (.returned (.tuple #[.agg #[.complex .f64 c1 c2, .float .f64 r], .int .i64 e])) W) → Calls prog 41 #[.agg #[.bool s.left.neg, .string s.left.n, .int .i64 s.left.e, .bool s.low.neg, .string s.low.n, .int .i64 s.low.e, .int .i64 s.e]] w PQ from key _ (fun e c1 c2 r W he h1 h2 h3 h4 => ⟨c1, c2, r, h1, h2, h3, by rw [he], h4⟩)
 intro PQ hPQ
 have HPQ := qh hPQ
 clear hPQ
 unfold qaj at hE
 rw [hc] at hE
 simp only at hE
 generalize qbu s = M at *
 generalize qaQ M.1.re = P at *
 generalize qaQ M.1.im = Q at *
 have hZ := qiG P Q
 have hZo : gsB (qbE P Q).1 = true := qiu P Q
 obtain ⟨F, hF⟩ : ∃ F, F = qd0 ⟨(qa9 P).1, (qa9 Q).1⟩ [⟨s.left, s.low⟩, ⟨X, s.low⟩, ⟨s.left, Y⟩, ⟨X, Y⟩] zD := ⟨_, rfl⟩
 rw [← hF] at hE
 have HC0 := qh (show M.2 ≠ 0 → E = 4 from fun h => by rw [hE, if_neg h])
 have HC1 := qh (show M.2 = 0 → (qbE P Q).2 ≠ 0 → E = 5 from fun h h2 => by rw [hE, if_pos h, if_neg (fun h3 => h2 (hZ.1 h3))])
 have HC2 := qh (show M.2 = 0 → (qbE P Q).2 = 0 → F = none → E = 4 from fun h h2 h3 => by rw [hE, if_pos h, if_pos (hZ.2 h2).1, h3])
 have HC3 := qh (show M.2 = 0 → (qbE P Q).2 = 0 → ∀ n, F = some n → qbb n qbB = false → E = 5 from fun h h2 n h3 h4 => by rw [hE, if_pos h, if_pos (hZ.2 h2).1, h3]; simp only; rw [h4]; rfl)
 have HC4 := qh (show M.2 = 0 → (qbE P Q).2 = 0 → ∀ n, F = some n → qbb n qbB = true → E = 0 from fun h h2 n h3 h4 => by rw [hE, if_pos h, if_pos (hZ.2 h2).1, h3]; simp only; rw [h4]; rfl)
 have HFZ := qh (show (qbE P Q).2 = 0 → F = qd0 (qbE P Q).1 [⟨s.left, s.low⟩, ⟨X, s.low⟩, ⟨s.left, Y⟩, ⟨X, Y⟩] zD from fun h => by rw [hF, (hZ.2 h).2])
 clear hE hZ hF
 generalize qbE P Q = Z at *
 obtain ⟨⟨a0, a1, a2⟩, ⟨a3, a4, a5⟩, a6⟩ := s
 obtain ⟨x0, x1, x2⟩ := X
 obtain ⟨y0, y1, y2⟩ := Y
 obtain ⟨⟨⟨m0, m1, m2⟩, ⟨m3, m4, m5⟩⟩, m6⟩ := M
 obtain ⟨⟨⟨z0, z1, z2⟩, ⟨z3, z4, z5⟩⟩, z6⟩ := Z
 simp only at CO MID HM NEAR CPX HC0 HC1 HC2 HC3 HC4 HFZ hZo hs1 hs2 ⊢
 have hm : m6 = 0 ∨ m6 = 4 := HM.imp id (fun h => (Prod.mk.inj h).2)
 have HO := qh (And.intro hs1 (And.intro hs2 (And.intro hX hY)))
 clear hs hc HM hMo hs1 hs2 hX hY
 go_enter func41, ntmps41
 go_upto_region 1 with fail
 obtain ⟨b, w1, hw, hb, B0, B1, K1, HB⟩ := qa7 w (LC3 a0 a1 a2 a3 a4 a5 a6) 26 [.complex .f64 0 0, .float .f64 0] 85
 rw [← hw, ← hb]; clear hw hb
 obtain ⟨c0, c1, c2, c3, c4, c5, c6⟩ := B0.out.c7
 clear c0 c1 c2 c3 c4 c5 c6
 refine wp_region_list ?_
 refine wpList_plain rfl fun K hK => qai (b := b) (n := 7) _ rfl rfl B0.out rfl underlying26 rfl (by kernel_rfl) (hK _ _ ?_)
 clear hK K
 refine wpList_plain rfl fun K hK => ?_
 go_step
 (with_reducible refine (CO.out _).mono ?_); rintro e w3 ⟨rfl, hk3⟩
 refine hK _ _ ?_
 clear hK K CO
 refine wpList_plain rfl fun K hK => BigFrame.wp_move _ rfl (hK _ _ ?_)
 clear hK K
 refine wpList_plain rfl fun K hK => ?_
 go_step
 refine hK _ _ ?_
 clear hK K
 refine wpList_plain rfl fun K hK => ?_
 go_step
 refine hK _ _ ?_
 clear hK K
 refine wpList_plain rfl fun K hK => ?_
 go_step
 refine hK _ _ ?_
 clear hK K
 have HG := qh (show w1.heap.size ≤ w3.heap.size from hk3.size)
 have K4 := qh (Kept.new hk3 (.cells ZL1.toArray 64))
 have B2 := qh (Bx.new w3 ZL1 64 w3.heap.size rfl)
 obtain ⟨g, hg⟩ : ∃ g, g = w3.heap.size := ⟨_, rfl⟩
 rw [← hg] at B2 HG ⊢
 clear hg hk3
 generalize World.alloc w3 _ = w4 at *
 refine wpList_plain rfl fun K hK => qaa (b := g) (n := 24) _ _ rfl rfl rfl B2.out rfl rfl (by kernel_rfl) rfl (hK _ _ ?_)
 clear hK K
 replace B2 := qh (B2.out.row (LC4 a0 a1 a2 a3 a4 a5 x0 x1 x2 a3 a4 a5 a0 a1 a2 y0 y1 y2 x0 x1 x2 y0 y1 y2))
 replace K4 := qh (Kept.row K4.out HG.out (LC4 a0 a1 a2 a3 a4 a5 x0 x1 x2 a3 a4 a5 a0 a1 a2 y0 y1 y2 x0 x1 x2 y0 y1 y2))
 generalize World.setRow w4 _ _ = w5 at *
 refine wpList_plain rfl fun K hK => ?_
 go_step
 refine hK _ _ ?_
 clear hK K
 obtain ⟨c0, c1, c2, c3, c4, c5, c6⟩ := (B0.out.kept K4.out).c7
 go_upto_region 3 with (go_at_call 76; (with_reducible refine (MID.out _).mono ?_); rintro e w6 ⟨rfl, hk6⟩)
 have K7 := qh (Kept.new (K4.out.trans' hk6) (.cells (LC1 m0 m1 m2 m3 m4 m5).toArray 28))
 have B3 := qh (Bx.new w6 (LC1 m0 m1 m2 m3 m4 m5) 28 w6.heap.size rfl)
 replace B2 := qh ((B2.out.kept hk6).kept (Kept.new (Below.refl _ _) (.cells (LC1 m0 m1 m2 m3 m4 m5).toArray 28)))
 obtain ⟨g2, hg⟩ : ∃ g, g = w6.heap.size := ⟨_, rfl⟩
 rw [← hg] at B3 ⊢
 clear hg hk6
 generalize (w6.alloc (.cells (LC1 m0 m1 m2 m3 m4 m5).toArray 28)) = w7 at *
 clear c0 c1 c2 c3 c4 c5 c6 MID
 rcases hm with rfl | rfl
 rotate_left
 ·have HE := qh (show E = 4 from by have h9 := HC0.out; simp at h9; exact h9)
  obtain ⟨re0, re1⟩ : (World.cell? _ ⟨b + 1, 0, none⟩ = some (.complex .f64 0 0)) ∧ (World.cell? _ ⟨b + 1, 1, none⟩ = some (.float .f64 0)) := ⟨(B1.out.kept K7.out).c 0 rfl, (B1.out.kept K7.out).c 1 rfl⟩
  obtain ⟨rf0, rf1⟩ : (World.frozen? _ ⟨b + 1, 0, none⟩ = false) ∧ (World.frozen? _ ⟨b + 1, 1, none⟩ = false) := ⟨(B1.out.kept K7.out).f 0, (B1.out.kept K7.out).f 1⟩
  go_wp2_with fail
  exact bodyPost_ret (v := .tuple #[.agg #[.complex .f64 0 0, .float .f64 0], .int .i64 4]) (by simp [results, results41, go_sem, re0, re1]) rfl (HPQ.out 4 0 0 0 _ HE.out.symm (by decide) (by decide) (by decide) (((K1.out.trans' K7.out).set (b := b + 1) (by have := HB.out; omega) 0 _).set (b := b + 1) (by have := HB.out; omega) 1 _))
 obtain ⟨c0, c1, c2, c3, c4, c5⟩ := B3.out.c6
 go_upto_region 6 with (go_at_call 77; (with_reducible refine (NEAR.out _).mono ?_); rintro e w8 ⟨rfl, hk8⟩)
 have K8 := qh (K7.out.trans' hk8)
 replace B2 := qh (B2.out.kept hk8)
 clear hk8 NEAR B3 c0 c1 c2 c3 c4 c5
 go_upto_region 7 with (go_at_call 78; (with_reducible refine (CPX.out _).mono ?_); rintro e w9 ⟨rfl, hk9⟩)
 have K10 := qh (Kept.new (K8.out.trans' hk9) (.cells (LC1 z0 z1 z2 z3 z4 z5).toArray 28))
 have B4 := qh (Bx.new w9 (LC1 z0 z1 z2 z3 z4 z5) 28 w9.heap.size rfl)
 replace B2 := qh ((B2.out.kept hk9).kept (Kept.new (Below.refl _ _) (.cells (LC1 z0 z1 z2 z3 z4 z5).toArray 28)))
 obtain ⟨g3, hg⟩ : ∃ g, g = w9.heap.size := ⟨_, rfl⟩
 rw [← hg] at B4 ⊢
 clear hg hk9
 generalize (w9.alloc (.cells (LC1 z0 z1 z2 z3 z4 z5).toArray 28)) = w10 at *
 clear CPX
 by_cases hz : z6 = 0
 rotate_left
 ·have HE := qh (show E = 5 from by have h9 := HC1.out; simp at h9; exact h9 hz)
  obtain ⟨re0, re1⟩ : (World.cell? _ ⟨b + 1, 0, none⟩ = some (.complex .f64 0 0)) ∧ (World.cell? _ ⟨b + 1, 1, none⟩ = some (.float .f64 0)) := ⟨(B1.out.kept K10.out).c 0 rfl, (B1.out.kept K10.out).c 1 rfl⟩
  obtain ⟨rf0, rf1⟩ : (World.frozen? _ ⟨b + 1, 0, none⟩ = false) ∧ (World.frozen? _ ⟨b + 1, 1, none⟩ = false) := ⟨(B1.out.kept K10.out).f 0, (B1.out.kept K10.out).f 1⟩
  go_wp2_with fail
  exact bodyPost_ret (v := .tuple #[.agg #[.complex .f64 0 0, .float .f64 0], .int .i64 5]) (by simp [results, results41, go_sem, re0, re1]) rfl (HPQ.out 5 0 0 0 _ HE.out.symm (by decide) (by decide) (by decide) (((K1.out.trans' K10.out).set (b := b + 1) (by have := HB.out; omega) 0 _).set (b := b + 1) (by have := HB.out; omega) 1 _))
 subst hz
 have HF := qh (show F = qd0 ⟨⟨z0, z1, z2⟩, ⟨z3, z4, z5⟩⟩ [⟨⟨a0, a1, a2⟩, ⟨a3, a4, a5⟩⟩, ⟨⟨x0, x1, x2⟩, ⟨a3, a4, a5⟩⟩, ⟨⟨a0, a1, a2⟩, ⟨y0, y1, y2⟩⟩, ⟨⟨x0, x1, x2⟩, ⟨y0, y1, y2⟩⟩] zD from by first | exact HFZ.out | exact HFZ.out rfl)
 clear HFZ HC0 HC1
 go_upto_region 11 with fail
 have KB := qh (Kept.new (Below.refl _ w10) (.cells (LC0 false ⟨#[]⟩ 0).toArray 24))
 have B5 := qh (Bx.new w10 (LC0 false ⟨#[]⟩ 0) 24 w10.heap.size rfl)
 obtain ⟨q, hq⟩ : ∃ g, g = w10.heap.size := ⟨_, rfl⟩
 rw [← hq] at B5 ⊢
 have HQ := qh (show w1.heap.size ≤ q by have := K10.out.size; omega)
 have HGQ := qh (show g ≠ q ∧ g3 ≠ q by have := B2.out.lt; have := B4.out.lt; omega)
 clear hq
 generalize (w10.alloc (.cells (LC0 false ⟨#[]⟩ 0).toArray 24)) = w11 at *
 obtain ⟨L, hL⟩ : ∃ L : List GsD, L = [⟨⟨a0, a1, a2⟩, ⟨a3, a4, a5⟩⟩, ⟨⟨x0, x1, x2⟩, ⟨a3, a4, a5⟩⟩, ⟨⟨a0, a1, a2⟩, ⟨y0, y1, y2⟩⟩, ⟨⟨x0, x1, x2⟩, ⟨y0, y1, y2⟩⟩] := ⟨_, rfl⟩
 rw [← hL] at HF
 obtain ⟨hs1, hs2, hX, hY⟩ := HO.out
 have CK : Hid (∀ k, k < 4 → ∃ G : GsD, gsB G = true ∧ L.drop k = G :: L.drop (k + 1) ∧ ∀ W, Bx W g (LC4 a0 a1 a2 a3 a4 a5 x0 x1 x2 a3 a4 a5 a0 a1 a2 y0 y1 y2 x0 x1 x2 y0 y1 y2) → W.cell? ⟨g, k * 6, none⟩ = some (.bool G.re.neg) ∧ W.cell? ⟨g, k * 6 + 1, none⟩ = some (.string G.re.n) ∧ W.cell? ⟨g, k * 6 + 2, none⟩ = some (.int .i64 G.re.e) ∧ W.cell? ⟨g, k * 6 + 3, none⟩ = some (.bool G.im.neg) ∧ W.cell? ⟨g, k * 6 + 4, none⟩ = some (.string G.im.n) ∧ W.cell? ⟨g, k * 6 + 5, none⟩ = some (.int .i64 G.im.e)) := by
  intro k hk
  rw [hL]
  rcases (show k = 0 ∨ k = 1 ∨ k = 2 ∨ k = 3 by omega) with rfl | rfl | rfl | rfl
  ·exact ⟨_, qam.2 ⟨hs1, hs2⟩, rfl, fun W h => ⟨h.c 0 rfl, h.c 1 rfl, h.c 2 rfl, h.c 3 rfl, h.c 4 rfl, h.c 5 rfl⟩⟩
  ·exact ⟨_, qam.2 ⟨hX, hs2⟩, rfl, fun W h => ⟨h.c 6 rfl, h.c 7 rfl, h.c 8 rfl, h.c 9 rfl, h.c 10 rfl, h.c 11 rfl⟩⟩
  ·exact ⟨_, qam.2 ⟨hs1, hY⟩, rfl, fun W h => ⟨h.c 12 rfl, h.c 13 rfl, h.c 14 rfl, h.c 15 rfl, h.c 16 rfl, h.c 17 rfl⟩⟩
  ·exact ⟨_, qam.2 ⟨hX, hY⟩, rfl, fun W h => ⟨h.c 18 rfl, h.c 19 rfl, h.c 20 rfl, h.c 21 rfl, h.c 22 rfl, h.c 23 rfl⟩⟩
 have HL4 := qh (show L.drop 4 = [] by rw [hL]; rfl)
 clear hL hs1 hs2 hX hY HO
 have HZO := qh hZo
 clear hZo
 replace B2 := qh (B2.out.kept KB.out)
 replace B4 := qh (B4.out.kept KB.out)
 replace KB := qh (K10.out.trans' KB.out)
 clear K10
 go_wp2_with fail
 go_loopg [11, 12, 13, 14, 15] 4 (fun gh v11 v12 v13 v14 v15 wr => ∃ (k : Nat) (m : DyD), k + gh = 4 ∧ v11 = .int .i64 (k : Int) ∧ qad m = true ∧ 0 ≤ m.num ∧ qd0 ⟨⟨z0, z1, z2⟩, ⟨z3, z4, z5⟩⟩ (L.drop k) m = F ∧ Bx wr q (LC0 m.neg m.n m.e) ∧ Bx wr g (LC4 a0 a1 a2 a3 a4 a5 x0 x1 x2 a3 a4 a5 a0 a1 a2 y0 y1 y2 x0 x1 x2 y0 y1 y2) ∧ Bx wr g3 (LC1 z0 z1 z2 z3 z4 z5) ∧ Kept w1 wr)
 case atStart => exact ⟨0, zD, by omega, rfl, rfl, Int.le_refl _, HF.out.symm, B5.out, B2.out, B4.out, KB.out⟩
 case round =>
  clear B2 B4 B5 KB HF
  obtain ⟨k, m, hkg, rfl, hm, hm0, hF, b5, b2, b4, hk⟩ := hrel
  have HM0 := qh hm0
  have HFF := qh hF
  have HMO := qh hm
  have B5 := qh b5
  have B2 := qh b2
  have B4 := qh b4
  have KR := qh hk
  have hqw := b5.lt
  clear hF hm hm0 b5 b2 b4 hk
  cases gk with
  | zero =>
   obtain rfl : k = 4 := by omega
   have HFN := qh (show F = some m by rw [← HFF.out, HL4.out]; rfl)
   have HE5 := qh (show qbb m qbB = false → E = 5 from fun h => by have h9 := HC3.out; simp at h9; exact h9 m HFN.out h)
   have HE0 := qh (show qbb m qbB = true → E = 0 from fun h => by have h9 := HC4.out; simp at h9; exact h9 m HFN.out h)
   have EN := qh (fun (x : Nat) W (hx : x < 18446744073709551616) => qiM m x W HMO.out hx)
   have NR := qh (fun W => qfN m W HMO.out)
   obtain ⟨sr, hsr⟩ := qmr (qmd HMO.out HM0.out)
   have SQ := qh (fun W => qlV (qaQ m) sr hsr W)
   generalize qaQ m = nr at *
   generalize qbb m = f at *
   obtain ⟨m0, m1, m2⟩ := m
   simp only at EN NR
   have EN0 : Hid (∀ W, Calls prog 83 #[.agg #[.bool m0, .string m1, .int .i64 m2], .int .u64 9218868437227405311] W fun en w' => en = .returned (.bool (f qbB)) ∧ Kept W w') := fun W => EN.out qbB W (by decide)
   clear HFN HC2 HC3 HC4 HFF HMO HM0 hsr CK HL4 B2 B4 HZO
   obtain ⟨c0, c1, c2⟩ := B5.out.c3
   cases hr : f qbB with
   | false =>
    have HE := qh (HE5.out hr)
    rw [hr] at EN0
    go_upto_region 21 with (go_at_call 83; (with_reducible refine (EN0.out _).mono ?_); rintro e w14 ⟨rfl, hk14⟩)
    have K15 := qh (KR.out.trans' hk14)
    clear hk14 c0 c1 c2 KR
    obtain ⟨re0, re1⟩ : (World.cell? _ ⟨b + 1, 0, none⟩ = some (.complex .f64 0 0)) ∧ (World.cell? _ ⟨b + 1, 1, none⟩ = some (.float .f64 0)) := ⟨(B1.out.kept K15.out).c 0 rfl, (B1.out.kept K15.out).c 1 rfl⟩
    obtain ⟨rf0, rf1⟩ : (World.frozen? _ ⟨b + 1, 0, none⟩ = false) ∧ (World.frozen? _ ⟨b + 1, 1, none⟩ = false) := ⟨(B1.out.kept K15.out).f 0, (B1.out.kept K15.out).f 1⟩
    go_wp2_with fail
    exact bodyPost_ret (v := .tuple #[.agg #[.complex .f64 0 0, .float .f64 0], .int .i64 5]) (by simp [results, results41, go_sem, re0, re1]) rfl (HPQ.out 5 0 0 0 _ HE.out.symm (by decide) (by decide) (by decide) (((K1.out.trans' K15.out).set (b := b + 1) (by have := HB.out; omega) 0 _).set (b := b + 1) (by have := HB.out; omega) 1 _))
   | true =>
    have HE := qh (HE0.out hr)
    rw [hr] at EN0
    go_upto_region 23 with (go_at_call 83; (with_reducible refine (EN0.out _).mono ?_); rintro e w14 ⟨rfl, hk14⟩; replace B5 := qh (B5.out.kept hk14); replace KR := qh (KR.out.trans' hk14); clear hk14)
    clear c0 c1 c2 EN0 HE0 HE5
    obtain ⟨c0, c1, c2⟩ := B5.out.c3
    go_upto_region 24 with (first
     | (go_at_call 85; (with_reducible refine (NR.out _).mono ?_); rintro e w15 ⟨rfl, hk15⟩; replace B5 := qh (B5.out.kept hk15); replace KR := qh (KR.out.trans' hk15); clear hk15 c0 c1 c2)
     | (go_at_call 84; (with_reducible refine (SQ.out _).mono ?_); rintro e w16 ⟨rfl, hw⟩; replace hw := hw.symm; subst hw))
    clear NR SQ
    obtain ⟨c0, c1, c2⟩ := B5.out.c3
    by_cases s1 : 8 < sr
    rotate_left
    ·have i1 : ¬ (8 : Int) < sr := by omega
     go_upto_region 26 with fail
     go_wp2_with fail
     go_loopg [17, 18, 20] (qbB - 0 - 1) (fun gh v17 v18 v20 wr => ∃ lo hi : Nat, v17 = .int .u64 (lo : Int) ∧ v18 = .int .u64 (hi : Int) ∧ lo + gh + 1 = hi ∧ hi < 9223372036854775808 ∧ Bx wr q (LC0 m0 m1 m2) ∧ Kept w1 wr)
     case atStart => exact ⟨0, qbB, by first | rfl | (congr 1; omega), by first | rfl | (congr 1; omega), by first | decide | omega, by first | decide | omega, B5.out, KR.out⟩
     case round =>
      clear B5 KR c0 c1 c2
      obtain ⟨lo, hi, rfl, rfl, hgap, hhi, b5, kr⟩ := hrel
      have B5 := qh b5
      have KR := qh kr
      clear b5 kr
      obtain ⟨D, hD⟩ : ∃ D : Nat, D = hi - lo := ⟨_, rfl⟩
      have hDI : IntKind.u64.wrap ((hi : Int) - lo) = (D : Int) := by rw [IntKind.wrap_u64]; omega
      have hDe : (hi : Int) - lo = (D : Int) := by omega
      have HD := qh hD
      cases gk with
      | zero =>
       have hD1 : D = 1 := by omega
       subst hD1
       have HG := qh hgap
       clear hgap hD
       obtain ⟨re0, re1⟩ : (World.cell? _ ⟨b + 1, 0, none⟩ = some (.complex .f64 0 0)) ∧ (World.cell? _ ⟨b + 1, 1, none⟩ = some (.float .f64 0)) := ⟨(B1.out.kept KR.out).c 0 rfl, (B1.out.kept KR.out).c 1 rfl⟩
       obtain ⟨rf0, rf1⟩ : (World.frozen? _ ⟨b + 1, 0, none⟩ = false) ∧ (World.frozen? _ ⟨b + 1, 1, none⟩ = false) := ⟨(B1.out.kept KR.out).f 0, (B1.out.kept KR.out).f 1⟩
       go_wp2_with fail
       exact bodyPost_ret (v := .tuple #[.agg #[.complex .f64 P Q, .float .f64 hi], .int .i64 0]) (by simp [results, results41, go_sem, re0, re1]) rfl (HPQ.out 0 P Q hi _ HE.out.symm hP hQ (by omega) (((K1.out.trans' KR.out).set (b := b + 1) (by have := HB.out; omega) 0 _).set (b := b + 1) (by have := HB.out; omega) 1 _))
      | succ gj =>
       obtain ⟨h, hh⟩ : ∃ h : Nat, h = D / 2 := ⟨_, rfl⟩
       have hhI : (D : Int) / 2 = (h : Int) := by omega
       have hD2 : (1 : Int) < D := by omega
       have hb : lo + h < 9223372036854775808 := by omega
       have HH := qh (show 1 ≤ h ∧ h < D ∧ lo + D = hi ∧ D = gj + 2 by omega)
       have ENM : Hid (∀ W, Calls prog 83 #[.agg #[.bool m0, .string m1, .int .i64 m2], .int .u64 ((lo : Int) + h)] W fun en w' => en = .returned (.bool (f (lo + h))) ∧ Kept W w') := fun W => EN.out (lo + h) W (by omega)
       clear hh hgap hD
       obtain ⟨c0, c1, c2⟩ := B5.out.c3
       cases hf : f (lo + h) with
       | true =>
        rw [hf] at ENM
        go_wp2_with (go_at_call 83; (with_reducible refine (ENM.out _).mono ?_); rintro e w18 ⟨rfl, hk18⟩; replace B5 := qh (B5.out.kept hk18); replace KR := qh (KR.out.trans' hk18); clear hk18)
        go_roundg (h - 1)
        case measure => have := HH.out; omega
        case rel => exact ⟨lo, lo + h, rfl, by first | rfl | (congr 1; omega), by have := HH.out; omega, by omega, B5.out, KR.out⟩
       | false =>
        rw [hf] at ENM
        go_wp2_with (go_at_call 83; (with_reducible refine (ENM.out _).mono ?_); rintro e w18 ⟨rfl, hk18⟩; replace B5 := qh (B5.out.kept hk18); replace KR := qh (KR.out.trans' hk18); clear hk18)
        go_roundg (D - h - 1)
        case measure => have := HH.out; omega
        case rel => exact ⟨lo + h, hi, by first | rfl | (congr 1; omega), rfl, by have := HH.out; omega, by omega, B5.out, KR.out⟩
    have i1 : (8 : Int) < sr := by omega
    by_cases s2 : sr < 9218868437227405303
    rotate_left
    ·have i2 : ¬ (sr : Int) < 9218868437227405303 := by omega
     go_upto_region 26 with fail
     go_wp2_with fail
     go_loopg [17, 18, 20] (qbB - 0 - 1) (fun gh v17 v18 v20 wr => ∃ lo hi : Nat, v17 = .int .u64 (lo : Int) ∧ v18 = .int .u64 (hi : Int) ∧ lo + gh + 1 = hi ∧ hi < 9223372036854775808 ∧ Bx wr q (LC0 m0 m1 m2) ∧ Kept w1 wr)
     case atStart => exact ⟨0, qbB, by first | rfl | (congr 1; omega), by first | rfl | (congr 1; omega), by first | decide | omega, by first | decide | omega, B5.out, KR.out⟩
     case round =>
      clear B5 KR c0 c1 c2
      obtain ⟨lo, hi, rfl, rfl, hgap, hhi, b5, kr⟩ := hrel
      have B5 := qh b5
      have KR := qh kr
      clear b5 kr
      obtain ⟨D, hD⟩ : ∃ D : Nat, D = hi - lo := ⟨_, rfl⟩
      have hDI : IntKind.u64.wrap ((hi : Int) - lo) = (D : Int) := by rw [IntKind.wrap_u64]; omega
      have hDe : (hi : Int) - lo = (D : Int) := by omega
      have HD := qh hD
      cases gk with
      | zero =>
       have hD1 : D = 1 := by omega
       subst hD1
       have HG := qh hgap
       clear hgap hD
       obtain ⟨re0, re1⟩ : (World.cell? _ ⟨b + 1, 0, none⟩ = some (.complex .f64 0 0)) ∧ (World.cell? _ ⟨b + 1, 1, none⟩ = some (.float .f64 0)) := ⟨(B1.out.kept KR.out).c 0 rfl, (B1.out.kept KR.out).c 1 rfl⟩
       obtain ⟨rf0, rf1⟩ : (World.frozen? _ ⟨b + 1, 0, none⟩ = false) ∧ (World.frozen? _ ⟨b + 1, 1, none⟩ = false) := ⟨(B1.out.kept KR.out).f 0, (B1.out.kept KR.out).f 1⟩
       go_wp2_with fail
       exact bodyPost_ret (v := .tuple #[.agg #[.complex .f64 P Q, .float .f64 hi], .int .i64 0]) (by simp [results, results41, go_sem, re0, re1]) rfl (HPQ.out 0 P Q hi _ HE.out.symm hP hQ (by omega) (((K1.out.trans' KR.out).set (b := b + 1) (by have := HB.out; omega) 0 _).set (b := b + 1) (by have := HB.out; omega) 1 _))
      | succ gj =>
       obtain ⟨h, hh⟩ : ∃ h : Nat, h = D / 2 := ⟨_, rfl⟩
       have hhI : (D : Int) / 2 = (h : Int) := by omega
       have hD2 : (1 : Int) < D := by omega
       have hb : lo + h < 9223372036854775808 := by omega
       have HH := qh (show 1 ≤ h ∧ h < D ∧ lo + D = hi ∧ D = gj + 2 by omega)
       have ENM : Hid (∀ W, Calls prog 83 #[.agg #[.bool m0, .string m1, .int .i64 m2], .int .u64 ((lo : Int) + h)] W fun en w' => en = .returned (.bool (f (lo + h))) ∧ Kept W w') := fun W => EN.out (lo + h) W (by omega)
       clear hh hgap hD
       obtain ⟨c0, c1, c2⟩ := B5.out.c3
       cases hf : f (lo + h) with
       | true =>
        rw [hf] at ENM
        go_wp2_with (go_at_call 83; (with_reducible refine (ENM.out _).mono ?_); rintro e w18 ⟨rfl, hk18⟩; replace B5 := qh (B5.out.kept hk18); replace KR := qh (KR.out.trans' hk18); clear hk18)
        go_roundg (h - 1)
        case measure => have := HH.out; omega
        case rel => exact ⟨lo, lo + h, rfl, by first | rfl | (congr 1; omega), by have := HH.out; omega, by omega, B5.out, KR.out⟩
       | false =>
        rw [hf] at ENM
        go_wp2_with (go_at_call 83; (with_reducible refine (ENM.out _).mono ?_); rintro e w18 ⟨rfl, hk18⟩; replace B5 := qh (B5.out.kept hk18); replace KR := qh (KR.out.trans' hk18); clear hk18)
        go_roundg (D - h - 1)
        case measure => have := HH.out; omega
        case rel => exact ⟨lo + h, hi, by first | rfl | (congr 1; omega), rfl, by have := HH.out; omega, by omega, B5.out, KR.out⟩
    have i2 : (sr : Int) < 9218868437227405303 := by omega
    have EN1 : Hid (∀ W, Calls prog 83 #[.agg #[.bool m0, .string m1, .int .i64 m2], .int .u64 ((sr : Int) - 8)] W fun en w' => en = .returned (.bool (f (sr - 8))) ∧ Kept W w') := fun W => by
     have := EN.out (sr - 8) W (by omega)
     rwa [show ((sr - 8 : Nat) : Int) = (sr : Int) - 8 by omega] at this
    have EN2 : Hid (∀ W, Calls prog 83 #[.agg #[.bool m0, .string m1, .int .i64 m2], .int .u64 ((sr : Int) + 8)] W fun en w' => en = .returned (.bool (f (sr + 8))) ∧ Kept W w') := fun W => EN.out (sr + 8) W (by omega)
    cases h1 : f (sr - 8) with
    | true =>
     rw [h1] at EN1
     go_wp2_with fail
     (with_reducible refine (EN1.out _).mono ?_)
     rintro e w17 ⟨rfl, hk17⟩
     replace B5 := qh (B5.out.kept hk17)
     replace KR := qh (KR.out.trans' hk17)
     clear hk17 c0 c1 c2 EN1
     obtain ⟨c0, c1, c2⟩ := B5.out.c3
     go_upto_region 26 with fail
     go_wp2_with fail
     go_loopg [17, 18, 20] (qbB - 0 - 1) (fun gh v17 v18 v20 wr => ∃ lo hi : Nat, v17 = .int .u64 (lo : Int) ∧ v18 = .int .u64 (hi : Int) ∧ lo + gh + 1 = hi ∧ hi < 9223372036854775808 ∧ Bx wr q (LC0 m0 m1 m2) ∧ Kept w1 wr)
     case atStart => exact ⟨0, qbB, by first | rfl | (congr 1; omega), by first | rfl | (congr 1; omega), by first | decide | omega, by first | decide | omega, B5.out, KR.out⟩
     case round =>
      clear B5 KR c0 c1 c2
      obtain ⟨lo, hi, rfl, rfl, hgap, hhi, b5, kr⟩ := hrel
      have B5 := qh b5
      have KR := qh kr
      clear b5 kr
      obtain ⟨D, hD⟩ : ∃ D : Nat, D = hi - lo := ⟨_, rfl⟩
      have hDI : IntKind.u64.wrap ((hi : Int) - lo) = (D : Int) := by rw [IntKind.wrap_u64]; omega
      have hDe : (hi : Int) - lo = (D : Int) := by omega
      have HD := qh hD
      cases gk with
      | zero =>
       have hD1 : D = 1 := by omega
       subst hD1
       have HG := qh hgap
       clear hgap hD
       obtain ⟨re0, re1⟩ : (World.cell? _ ⟨b + 1, 0, none⟩ = some (.complex .f64 0 0)) ∧ (World.cell? _ ⟨b + 1, 1, none⟩ = some (.float .f64 0)) := ⟨(B1.out.kept KR.out).c 0 rfl, (B1.out.kept KR.out).c 1 rfl⟩
       obtain ⟨rf0, rf1⟩ : (World.frozen? _ ⟨b + 1, 0, none⟩ = false) ∧ (World.frozen? _ ⟨b + 1, 1, none⟩ = false) := ⟨(B1.out.kept KR.out).f 0, (B1.out.kept KR.out).f 1⟩
       go_wp2_with fail
       exact bodyPost_ret (v := .tuple #[.agg #[.complex .f64 P Q, .float .f64 hi], .int .i64 0]) (by simp [results, results41, go_sem, re0, re1]) rfl (HPQ.out 0 P Q hi _ HE.out.symm hP hQ (by omega) (((K1.out.trans' KR.out).set (b := b + 1) (by have := HB.out; omega) 0 _).set (b := b + 1) (by have := HB.out; omega) 1 _))
      | succ gj =>
       obtain ⟨h, hh⟩ : ∃ h : Nat, h = D / 2 := ⟨_, rfl⟩
       have hhI : (D : Int) / 2 = (h : Int) := by omega
       have hD2 : (1 : Int) < D := by omega
       have hb : lo + h < 9223372036854775808 := by omega
       have HH := qh (show 1 ≤ h ∧ h < D ∧ lo + D = hi ∧ D = gj + 2 by omega)
       have ENM : Hid (∀ W, Calls prog 83 #[.agg #[.bool m0, .string m1, .int .i64 m2], .int .u64 ((lo : Int) + h)] W fun en w' => en = .returned (.bool (f (lo + h))) ∧ Kept W w') := fun W => EN.out (lo + h) W (by omega)
       clear hh hgap hD
       obtain ⟨c0, c1, c2⟩ := B5.out.c3
       cases hf : f (lo + h) with
       | true =>
        rw [hf] at ENM
        go_wp2_with (go_at_call 83; (with_reducible refine (ENM.out _).mono ?_); rintro e w18 ⟨rfl, hk18⟩; replace B5 := qh (B5.out.kept hk18); replace KR := qh (KR.out.trans' hk18); clear hk18)
        go_roundg (h - 1)
        case measure => have := HH.out; omega
        case rel => exact ⟨lo, lo + h, rfl, by first | rfl | (congr 1; omega), by have := HH.out; omega, by omega, B5.out, KR.out⟩
       | false =>
        rw [hf] at ENM
        go_wp2_with (go_at_call 83; (with_reducible refine (ENM.out _).mono ?_); rintro e w18 ⟨rfl, hk18⟩; replace B5 := qh (B5.out.kept hk18); replace KR := qh (KR.out.trans' hk18); clear hk18)
        go_roundg (D - h - 1)
        case measure => have := HH.out; omega
        case rel => exact ⟨lo + h, hi, by first | rfl | (congr 1; omega), rfl, by have := HH.out; omega, by omega, B5.out, KR.out⟩
    | false =>
     rw [h1] at EN1
     go_wp2_with fail
     (with_reducible refine (EN1.out _).mono ?_)
     rintro e w17 ⟨rfl, hk17⟩
     replace B5 := qh (B5.out.kept hk17)
     replace KR := qh (KR.out.trans' hk17)
     clear hk17 c0 c1 c2 EN1
     obtain ⟨c0, c1, c2⟩ := B5.out.c3
     cases h2 : f (sr + 8) with
     | false =>
      rw [h2] at EN2
      go_wp2_with fail
      (with_reducible refine (EN2.out _).mono ?_)
      rintro e w17 ⟨rfl, hk17⟩
      replace B5 := qh (B5.out.kept hk17)
      replace KR := qh (KR.out.trans' hk17)
      clear hk17 c0 c1 c2 EN2
      obtain ⟨c0, c1, c2⟩ := B5.out.c3
      go_upto_region 26 with fail
      go_wp2_with fail
      go_loopg [17, 18, 20] (qbB - 0 - 1) (fun gh v17 v18 v20 wr => ∃ lo hi : Nat, v17 = .int .u64 (lo : Int) ∧ v18 = .int .u64 (hi : Int) ∧ lo + gh + 1 = hi ∧ hi < 9223372036854775808 ∧ Bx wr q (LC0 m0 m1 m2) ∧ Kept w1 wr)
      case atStart => exact ⟨0, qbB, by first | rfl | (congr 1; omega), by first | rfl | (congr 1; omega), by first | decide | omega, by first | decide | omega, B5.out, KR.out⟩
      case round =>
       clear B5 KR c0 c1 c2
       obtain ⟨lo, hi, rfl, rfl, hgap, hhi, b5, kr⟩ := hrel
       have B5 := qh b5
       have KR := qh kr
       clear b5 kr
       obtain ⟨D, hD⟩ : ∃ D : Nat, D = hi - lo := ⟨_, rfl⟩
       have hDI : IntKind.u64.wrap ((hi : Int) - lo) = (D : Int) := by rw [IntKind.wrap_u64]; omega
       have hDe : (hi : Int) - lo = (D : Int) := by omega
       have HD := qh hD
       cases gk with
       | zero =>
        have hD1 : D = 1 := by omega
        subst hD1
        have HG := qh hgap
        clear hgap hD
        obtain ⟨re0, re1⟩ : (World.cell? _ ⟨b + 1, 0, none⟩ = some (.complex .f64 0 0)) ∧ (World.cell? _ ⟨b + 1, 1, none⟩ = some (.float .f64 0)) := ⟨(B1.out.kept KR.out).c 0 rfl, (B1.out.kept KR.out).c 1 rfl⟩
        obtain ⟨rf0, rf1⟩ : (World.frozen? _ ⟨b + 1, 0, none⟩ = false) ∧ (World.frozen? _ ⟨b + 1, 1, none⟩ = false) := ⟨(B1.out.kept KR.out).f 0, (B1.out.kept KR.out).f 1⟩
        go_wp2_with fail
        exact bodyPost_ret (v := .tuple #[.agg #[.complex .f64 P Q, .float .f64 hi], .int .i64 0]) (by simp [results, results41, go_sem, re0, re1]) rfl (HPQ.out 0 P Q hi _ HE.out.symm hP hQ (by omega) (((K1.out.trans' KR.out).set (b := b + 1) (by have := HB.out; omega) 0 _).set (b := b + 1) (by have := HB.out; omega) 1 _))
       | succ gj =>
        obtain ⟨h, hh⟩ : ∃ h : Nat, h = D / 2 := ⟨_, rfl⟩
        have hhI : (D : Int) / 2 = (h : Int) := by omega
        have hD2 : (1 : Int) < D := by omega
        have hb : lo + h < 9223372036854775808 := by omega
        have HH := qh (show 1 ≤ h ∧ h < D ∧ lo + D = hi ∧ D = gj + 2 by omega)
        have ENM : Hid (∀ W, Calls prog 83 #[.agg #[.bool m0, .string m1, .int .i64 m2], .int .u64 ((lo : Int) + h)] W fun en w' => en = .returned (.bool (f (lo + h))) ∧ Kept W w') := fun W => EN.out (lo + h) W (by omega)
        clear hh hgap hD
        obtain ⟨c0, c1, c2⟩ := B5.out.c3
        cases hf : f (lo + h) with
        | true =>
         rw [hf] at ENM
         go_wp2_with (go_at_call 83; (with_reducible refine (ENM.out _).mono ?_); rintro e w18 ⟨rfl, hk18⟩; replace B5 := qh (B5.out.kept hk18); replace KR := qh (KR.out.trans' hk18); clear hk18)
         go_roundg (h - 1)
         case measure => have := HH.out; omega
         case rel => exact ⟨lo, lo + h, rfl, by first | rfl | (congr 1; omega), by have := HH.out; omega, by omega, B5.out, KR.out⟩
        | false =>
         rw [hf] at ENM
         go_wp2_with (go_at_call 83; (with_reducible refine (ENM.out _).mono ?_); rintro e w18 ⟨rfl, hk18⟩; replace B5 := qh (B5.out.kept hk18); replace KR := qh (KR.out.trans' hk18); clear hk18)
         go_roundg (D - h - 1)
         case measure => have := HH.out; omega
         case rel => exact ⟨lo + h, hi, by first | rfl | (congr 1; omega), rfl, by have := HH.out; omega, by omega, B5.out, KR.out⟩
     | true =>
      rw [h2] at EN2
      go_wp2_with fail
      (with_reducible refine (EN2.out _).mono ?_)
      rintro e w17 ⟨rfl, hk17⟩
      replace B5 := qh (B5.out.kept hk17)
      replace KR := qh (KR.out.trans' hk17)
      clear hk17 c0 c1 c2 EN2
      obtain ⟨c0, c1, c2⟩ := B5.out.c3
      go_upto_region 26 with fail
      go_wp2_with fail
      go_loopg [17, 18, 20] ((sr + 8) - (sr - 8) - 1) (fun gh v17 v18 v20 wr => ∃ lo hi : Nat, v17 = .int .u64 (lo : Int) ∧ v18 = .int .u64 (hi : Int) ∧ lo + gh + 1 = hi ∧ hi < 9223372036854775808 ∧ Bx wr q (LC0 m0 m1 m2) ∧ Kept w1 wr)
      case atStart => exact ⟨(sr - 8), (sr + 8), by first | rfl | (congr 1; omega), by first | rfl | (congr 1; omega), by first | decide | omega, by first | decide | omega, B5.out, KR.out⟩
      case round =>
       clear B5 KR c0 c1 c2
       obtain ⟨lo, hi, rfl, rfl, hgap, hhi, b5, kr⟩ := hrel
       have B5 := qh b5
       have KR := qh kr
       clear b5 kr
       obtain ⟨D, hD⟩ : ∃ D : Nat, D = hi - lo := ⟨_, rfl⟩
       have hDI : IntKind.u64.wrap ((hi : Int) - lo) = (D : Int) := by rw [IntKind.wrap_u64]; omega
       have hDe : (hi : Int) - lo = (D : Int) := by omega
       have HD := qh hD
       cases gk with
       | zero =>
        have hD1 : D = 1 := by omega
        subst hD1
        have HG := qh hgap
        clear hgap hD
        obtain ⟨re0, re1⟩ : (World.cell? _ ⟨b + 1, 0, none⟩ = some (.complex .f64 0 0)) ∧ (World.cell? _ ⟨b + 1, 1, none⟩ = some (.float .f64 0)) := ⟨(B1.out.kept KR.out).c 0 rfl, (B1.out.kept KR.out).c 1 rfl⟩
        obtain ⟨rf0, rf1⟩ : (World.frozen? _ ⟨b + 1, 0, none⟩ = false) ∧ (World.frozen? _ ⟨b + 1, 1, none⟩ = false) := ⟨(B1.out.kept KR.out).f 0, (B1.out.kept KR.out).f 1⟩
        go_wp2_with fail
        exact bodyPost_ret (v := .tuple #[.agg #[.complex .f64 P Q, .float .f64 hi], .int .i64 0]) (by simp [results, results41, go_sem, re0, re1]) rfl (HPQ.out 0 P Q hi _ HE.out.symm hP hQ (by omega) (((K1.out.trans' KR.out).set (b := b + 1) (by have := HB.out; omega) 0 _).set (b := b + 1) (by have := HB.out; omega) 1 _))
       | succ gj =>
        obtain ⟨h, hh⟩ : ∃ h : Nat, h = D / 2 := ⟨_, rfl⟩
        have hhI : (D : Int) / 2 = (h : Int) := by omega
        have hD2 : (1 : Int) < D := by omega
        have hb : lo + h < 9223372036854775808 := by omega
        have HH := qh (show 1 ≤ h ∧ h < D ∧ lo + D = hi ∧ D = gj + 2 by omega)
        have ENM : Hid (∀ W, Calls prog 83 #[.agg #[.bool m0, .string m1, .int .i64 m2], .int .u64 ((lo : Int) + h)] W fun en w' => en = .returned (.bool (f (lo + h))) ∧ Kept W w') := fun W => EN.out (lo + h) W (by omega)
        clear hh hgap hD
        obtain ⟨c0, c1, c2⟩ := B5.out.c3
        cases hf : f (lo + h) with
        | true =>
         rw [hf] at ENM
         go_wp2_with (go_at_call 83; (with_reducible refine (ENM.out _).mono ?_); rintro e w18 ⟨rfl, hk18⟩; replace B5 := qh (B5.out.kept hk18); replace KR := qh (KR.out.trans' hk18); clear hk18)
         go_roundg (h - 1)
         case measure => have := HH.out; omega
         case rel => exact ⟨lo, lo + h, rfl, by first | rfl | (congr 1; omega), by have := HH.out; omega, by omega, B5.out, KR.out⟩
        | false =>
         rw [hf] at ENM
         go_wp2_with (go_at_call 83; (with_reducible refine (ENM.out _).mono ?_); rintro e w18 ⟨rfl, hk18⟩; replace B5 := qh (B5.out.kept hk18); replace KR := qh (KR.out.trans' hk18); clear hk18)
         go_roundg (D - h - 1)
         case measure => have := HH.out; omega
         case rel => exact ⟨lo + h, hi, by first | rfl | (congr 1; omega), rfl, by have := HH.out; omega, by omega, B5.out, KR.out⟩
  | succ gh =>
   obtain ⟨G, hG, hdr, hcell⟩ := CK.out k (by omega)
   have SUB := qh (fun W => qhs G ⟨⟨z0, z1, z2⟩, ⟨z3, z4, z5⟩⟩ W hG HZO.out)
   have hS1 := qiw hG HZO.out
   have HS := qgW G ⟨⟨z0, z1, z2⟩, ⟨z3, z4, z5⟩⟩
   have HFE : qd0 ⟨⟨z0, z1, z2⟩, ⟨z3, z4, z5⟩⟩ (L.drop k) m = F := HFF.out
   rw [hdr] at HFE
   unfold qd0 at HFE
   generalize qej G ⟨⟨z0, z1, z2⟩, ⟨z3, z4, z5⟩⟩ = S at *
   have NRM := qh (fun W => qhh S.1 W hS1)
   have hN1 := qgY S.1
   have hN0 := qh (qic S.1)
   have HN : (qbX S.1).2 = 0 ∨ qbX S.1 = (zD, 4) := qhg _ _
   generalize qbX S.1 = N at *
   have CMP := qh (fun W => qcZ m N.1 W HMO.out hN1)
   rw [qhR m N.1] at HFE
   generalize qbx m N.1 = cc at *
   have HFEE := qh HFE
   have HNO := qh hN1
   obtain ⟨⟨t0, t1, t2⟩, ⟨t3, t4, t5⟩⟩ := G
   obtain ⟨⟨⟨s0, s1, s2⟩, ⟨s3, s4, s5⟩⟩, s6⟩ := S
   obtain ⟨⟨n0, n1, n2⟩, n3⟩ := N
   obtain ⟨m0, m1, m2⟩ := m
   simp only at SUB NRM CMP HFEE HNO HMO HM0 hN0 HS HN hcell
   have hs6 : s6 = 0 ∨ s6 = 4 := HS.imp id (fun h => (Prod.mk.inj h).2)
   have hn3 : n3 = 0 ∨ n3 = 4 := HN.imp id (fun h => (Prod.mk.inj h).2)
   have SK : Hid (∀ W, Kept wr W → (W.cell? ⟨g, k * 6, none⟩ = some (.bool t0) ∧ W.cell? ⟨g, k * 6 + 1, none⟩ = some (.string t1) ∧ W.cell? ⟨g, k * 6 + 2, none⟩ = some (.int .i64 t2) ∧ W.cell? ⟨g, k * 6 + 3, none⟩ = some (.bool t3) ∧ W.cell? ⟨g, k * 6 + 4, none⟩ = some (.string t4) ∧ W.cell? ⟨g, k * 6 + 5, none⟩ = some (.int .i64 t5)) ∧ W.cell? ⟨g3, 0, none⟩ = some (.bool z0) ∧ W.cell? ⟨g3, 1, none⟩ = some (.string z1) ∧ W.cell? ⟨g3, 2, none⟩ = some (.int .i64 z2) ∧ W.cell? ⟨g3, 3, none⟩ = some (.bool z3) ∧ W.cell? ⟨g3, 4, none⟩ = some (.string z4) ∧ W.cell? ⟨g3, 5, none⟩ = some (.int .i64 z5)) := fun W h => ⟨hcell W (B2.out.kept h), (B4.out.kept h).c6⟩
   clear HFE HS HN hS1 hN1 hcell hdr hG HFF
   have hkI : (k : Int) < 4 := by omega
   go_wp2_with fail
   go_cut [12, 13] from 52 to 59 (fun v12 v13 wy => ∃ gs : Nat, v12 = .pointer (some ⟨gs, 0, none⟩) ∧ v13 = .int .i64 s6 ∧ Bx wy gs (LC1 s0 s1 s2 s3 s4 s5) ∧ Kept wr wy)
   case first =>
    have hS0 := SK.out _ (Below.refl _ wr).drew
    have KR : Hid (∀ o, ((World.drew (World.alloc wr o)).cell? ⟨g, k * 6, none⟩ = some (.bool t0) ∧ (World.drew (World.alloc wr o)).cell? ⟨g, k * 6 + 1, none⟩ = some (.string t1) ∧ (World.drew (World.alloc wr o)).cell? ⟨g, k * 6 + 2, none⟩ = some (.int .i64 t2) ∧ (World.drew (World.alloc wr o)).cell? ⟨g, k * 6 + 3, none⟩ = some (.bool t3) ∧ (World.drew (World.alloc wr o)).cell? ⟨g, k * 6 + 4, none⟩ = some (.string t4) ∧ (World.drew (World.alloc wr o)).cell? ⟨g, k * 6 + 5, none⟩ = some (.int .i64 t5)) ∧ (World.drew (World.alloc wr o)).cell? ⟨g3, 0, none⟩ = some (.bool z0) ∧ (World.drew (World.alloc wr o)).cell? ⟨g3, 1, none⟩ = some (.string z1) ∧ (World.drew (World.alloc wr o)).cell? ⟨g3, 2, none⟩ = some (.int .i64 z2) ∧ (World.drew (World.alloc wr o)).cell? ⟨g3, 3, none⟩ = some (.bool z3) ∧ (World.drew (World.alloc wr o)).cell? ⟨g3, 4, none⟩ = some (.string z4) ∧ (World.drew (World.alloc wr o)).cell? ⟨g3, 5, none⟩ = some (.int .i64 z5)) := qh (fun o => SK.out _ ((Kept.new (Below.refl _ wr) o).drew'))
    refine qab (fun W => (W.cell? ⟨g, k * 6, none⟩ = some (.bool t0) ∧ W.cell? ⟨g, k * 6 + 1, none⟩ = some (.string t1) ∧ W.cell? ⟨g, k * 6 + 2, none⟩ = some (.int .i64 t2) ∧ W.cell? ⟨g, k * 6 + 3, none⟩ = some (.bool t3) ∧ W.cell? ⟨g, k * 6 + 4, none⟩ = some (.string t4) ∧ W.cell? ⟨g, k * 6 + 5, none⟩ = some (.int .i64 t5)) ∧ W.cell? ⟨g3, 0, none⟩ = some (.bool z0) ∧ W.cell? ⟨g3, 1, none⟩ = some (.string z1) ∧ W.cell? ⟨g3, 2, none⟩ = some (.int .i64 z2) ∧ W.cell? ⟨g3, 3, none⟩ = some (.bool z3) ∧ W.cell? ⟨g3, 4, none⟩ = some (.string z4) ∧ W.cell? ⟨g3, 5, none⟩ = some (.int .i64 z5)) [10] (by kernel_rfl) ?_ (fun hHeld => ?_)
    ·first | with_reducible assumption | with_reducible exact KA.out _ | with_reducible exact KR.out _ | with_reducible exact KC.out _ _ _ _ _ _
    refine wS 0 53 ?_
    refine wS 1 54 ?_
    refine wS 2 55 ?_
    refine wS 3 56 ?_
    refine tS 4 8 (fun K hK => ?_) (fun K hK => ?_)
    ·skip
     go_simp
     (refine (SUB.out _).mono ?_; rintro e w13 ⟨rfl, hk13⟩; have K3 := qh (show Kept wr w13 from (Below.refl _ wr).drew.trans (hk13.mono (Nat.le_refl _))); have hS3 := SK.out _ K3.out; have KA : Hid (∀ o, ((World.alloc w13 o).cell? ⟨g, k * 6, none⟩ = some (.bool t0) ∧ (World.alloc w13 o).cell? ⟨g, k * 6 + 1, none⟩ = some (.string t1) ∧ (World.alloc w13 o).cell? ⟨g, k * 6 + 2, none⟩ = some (.int .i64 t2) ∧ (World.alloc w13 o).cell? ⟨g, k * 6 + 3, none⟩ = some (.bool t3) ∧ (World.alloc w13 o).cell? ⟨g, k * 6 + 4, none⟩ = some (.string t4) ∧ (World.alloc w13 o).cell? ⟨g, k * 6 + 5, none⟩ = some (.int .i64 t5)) ∧ (World.alloc w13 o).cell? ⟨g3, 0, none⟩ = some (.bool z0) ∧ (World.alloc w13 o).cell? ⟨g3, 1, none⟩ = some (.string z1) ∧ (World.alloc w13 o).cell? ⟨g3, 2, none⟩ = some (.int .i64 z2) ∧ (World.alloc w13 o).cell? ⟨g3, 3, none⟩ = some (.bool z3) ∧ (World.alloc w13 o).cell? ⟨g3, 4, none⟩ = some (.string z4) ∧ (World.alloc w13 o).cell? ⟨g3, 5, none⟩ = some (.int .i64 z5)) := qh (fun o => SK.out _ (Kept.new K3.out o)); clear hk13)
     refine hK.out _ _ ?_ (fun hHeld => ?_)
     ·first | with_reducible assumption | with_reducible exact KA.out _ | with_reducible exact KR.out _ | with_reducible exact KC.out _ _ _ _ _ _
     clear hK K
     try simp only [Act.put, tdy]
     refine wS 5 52 ?_
     refine wS 6 58 ?_
     refine wS 7 59 ?_
     refine oS 8 fun K hK => ?_
     go_simp
     refine hK.out _ _ ?_ (fun hHeld => ?_)
     ·first | with_reducible assumption | with_reducible exact KA.out _ | with_reducible exact KR.out _ | with_reducible exact KC.out _ _ _ _ _ _
     clear hK K
     try simp only [Act.put, tdy]
     refine oS 9 fun K hK => ?_
     go_simp
     refine hK.out _ _ ?_ (fun hHeld => ?_)
     ·first | with_reducible assumption | with_reducible exact KA.out _ | with_reducible exact KR.out _ | with_reducible exact KC.out _ _ _ _ _ _
     clear hK K
     try simp only [Act.put, tdy]
     refine eS 10 fun K hK => ?_
     go_simp
     refine hK.out _ _ ?_
     clear hK K
     try simp only [Act.put, tdy]
     refine dS ?_ _
     go_wp2_with fail
     go_meet
     exact ⟨w13.heap.size, rfl, rfl, Bx.new w13 (LC1 s0 s1 s2 s3 s4 s5) 28 w13.heap.size rfl, Kept.new K3.out _⟩
    ·skip
     go_simp
     refine hK.out _ _ ?_ (fun hHeld => ?_)
     ·first | with_reducible assumption | with_reducible exact KA.out _ | with_reducible exact KR.out _ | with_reducible exact KC.out _ _ _ _ _ _
     clear hK K
     try simp only [Act.put, tdy]
     refine oS 4 fun K hK => ?_
     go_simp
     (refine (SUB.out _).mono ?_; rintro e w13 ⟨rfl, hk13⟩; have K3 := qh (show Kept wr w13 from ((Kept.new (Below.refl _ wr) (.cells ZL0.toArray 28)).drew').trans' hk13); have hS3 := SK.out _ K3.out; have KC : Hid (∀ v0 v1 v2 v3 v4 v5, (((((((w13.setCell ⟨wr.heap.size, 0, none⟩ v0).setCell ⟨wr.heap.size, 1, none⟩ v1).setCell ⟨wr.heap.size, 2, none⟩ v2).setCell ⟨wr.heap.size, 3, none⟩ v3).setCell ⟨wr.heap.size, 4, none⟩ v4).setCell ⟨wr.heap.size, 5, none⟩ v5).cell? ⟨g, k * 6, none⟩ = some (.bool t0) ∧ ((((((w13.setCell ⟨wr.heap.size, 0, none⟩ v0).setCell ⟨wr.heap.size, 1, none⟩ v1).setCell ⟨wr.heap.size, 2, none⟩ v2).setCell ⟨wr.heap.size, 3, none⟩ v3).setCell ⟨wr.heap.size, 4, none⟩ v4).setCell ⟨wr.heap.size, 5, none⟩ v5).cell? ⟨g, k * 6 + 1, none⟩ = some (.string t1) ∧ ((((((w13.setCell ⟨wr.heap.size, 0, none⟩ v0).setCell ⟨wr.heap.size, 1, none⟩ v1).setCell ⟨wr.heap.size, 2, none⟩ v2).setCell ⟨wr.heap.size, 3, none⟩ v3).setCell ⟨wr.heap.size, 4, none⟩ v4).setCell ⟨wr.heap.size, 5, none⟩ v5).cell? ⟨g, k * 6 + 2, none⟩ = some (.int .i64 t2) ∧ ((((((w13.setCell ⟨wr.heap.size, 0, none⟩ v0).setCell ⟨wr.heap.size, 1, none⟩ v1).setCell ⟨wr.heap.size, 2, none⟩ v2).setCell ⟨wr.heap.size, 3, none⟩ v3).setCell ⟨wr.heap.size, 4, none⟩ v4).setCell ⟨wr.heap.size, 5, none⟩ v5).cell? ⟨g, k * 6 + 3, none⟩ = some (.bool t3) ∧ ((((((w13.setCell ⟨wr.heap.size, 0, none⟩ v0).setCell ⟨wr.heap.size, 1, none⟩ v1).setCell ⟨wr.heap.size, 2, none⟩ v2).setCell ⟨wr.heap.size, 3, none⟩ v3).setCell ⟨wr.heap.size, 4, none⟩ v4).setCell ⟨wr.heap.size, 5, none⟩ v5).cell? ⟨g, k * 6 + 4, none⟩ = some (.string t4) ∧ ((((((w13.setCell ⟨wr.heap.size, 0, none⟩ v0).setCell ⟨wr.heap.size, 1, none⟩ v1).setCell ⟨wr.heap.size, 2, none⟩ v2).setCell ⟨wr.heap.size, 3, none⟩ v3).setCell ⟨wr.heap.size, 4, none⟩ v4).setCell ⟨wr.heap.size, 5, none⟩ v5).cell? ⟨g, k * 6 + 5, none⟩ = some (.int .i64 t5)) ∧ ((((((w13.setCell ⟨wr.heap.size, 0, none⟩ v0).setCell ⟨wr.heap.size, 1, none⟩ v1).setCell ⟨wr.heap.size, 2, none⟩ v2).setCell ⟨wr.heap.size, 3, none⟩ v3).setCell ⟨wr.heap.size, 4, none⟩ v4).setCell ⟨wr.heap.size, 5, none⟩ v5).cell? ⟨g3, 0, none⟩ = some (.bool z0) ∧ ((((((w13.setCell ⟨wr.heap.size, 0, none⟩ v0).setCell ⟨wr.heap.size, 1, none⟩ v1).setCell ⟨wr.heap.size, 2, none⟩ v2).setCell ⟨wr.heap.size, 3, none⟩ v3).setCell ⟨wr.heap.size, 4, none⟩ v4).setCell ⟨wr.heap.size, 5, none⟩ v5).cell? ⟨g3, 1, none⟩ = some (.string z1) ∧ ((((((w13.setCell ⟨wr.heap.size, 0, none⟩ v0).setCell ⟨wr.heap.size, 1, none⟩ v1).setCell ⟨wr.heap.size, 2, none⟩ v2).setCell ⟨wr.heap.size, 3, none⟩ v3).setCell ⟨wr.heap.size, 4, none⟩ v4).setCell ⟨wr.heap.size, 5, none⟩ v5).cell? ⟨g3, 2, none⟩ = some (.int .i64 z2) ∧ ((((((w13.setCell ⟨wr.heap.size, 0, none⟩ v0).setCell ⟨wr.heap.size, 1, none⟩ v1).setCell ⟨wr.heap.size, 2, none⟩ v2).setCell ⟨wr.heap.size, 3, none⟩ v3).setCell ⟨wr.heap.size, 4, none⟩ v4).setCell ⟨wr.heap.size, 5, none⟩ v5).cell? ⟨g3, 3, none⟩ = some (.bool z3) ∧ ((((((w13.setCell ⟨wr.heap.size, 0, none⟩ v0).setCell ⟨wr.heap.size, 1, none⟩ v1).setCell ⟨wr.heap.size, 2, none⟩ v2).setCell ⟨wr.heap.size, 3, none⟩ v3).setCell ⟨wr.heap.size, 4, none⟩ v4).setCell ⟨wr.heap.size, 5, none⟩ v5).cell? ⟨g3, 4, none⟩ = some (.string z4) ∧ ((((((w13.setCell ⟨wr.heap.size, 0, none⟩ v0).setCell ⟨wr.heap.size, 1, none⟩ v1).setCell ⟨wr.heap.size, 2, none⟩ v2).setCell ⟨wr.heap.size, 3, none⟩ v3).setCell ⟨wr.heap.size, 4, none⟩ v4).setCell ⟨wr.heap.size, 5, none⟩ v5).cell? ⟨g3, 5, none⟩ = some (.int .i64 z5)) := qh (fun v0 v1 v2 v3 v4 v5 => SK.out _ (K3.out.qdk (Nat.le_refl _) v0 v1 v2 v3 v4 v5)); have BX := qh ((Bx.new wr ZL0 28 wr.heap.size rfl).kept ((Below.refl _ (World.alloc wr (.cells ZL0.toArray 28))).drew.trans (hk13.mono (Nat.le_refl _)))); clear hk13)
     refine hK.out _ _ ?_ (fun hHeld => ?_)
     ·first | with_reducible assumption | with_reducible exact KA.out _ | with_reducible exact KR.out _ | with_reducible exact KC.out _ _ _ _ _ _
     clear hK K
     try simp only [Act.put, tdy]
     refine wS 5 52 ?_
     refine wS 6 58 ?_
     refine wS 7 59 ?_
     obtain ⟨e0, e1, e2, e3, e4, e5⟩ := BX.out.c6
     obtain ⟨f0, f1, f2, f3, f4, f5⟩ := BX.out.f6
     refine oS 9 fun K hK => ?_
     go_simp
     refine hK.out _ _ ?_ (fun hHeld => ?_)
     ·first | with_reducible assumption | with_reducible exact KA.out _ | with_reducible exact KR.out _ | with_reducible exact KC.out _ _ _ _ _ _
     clear hK K
     try simp only [Act.put, tdy]
     refine eS 10 fun K hK => ?_
     go_simp
     refine hK.out _ _ ?_
     clear hK K
     try simp only [Act.put, tdy]
     refine dS ?_ _
     go_wp2_with fail
     go_meet
     exact ⟨wr.heap.size, rfl, rfl, ((((((BX.out.set 0 _ (by simp)).set 1 _ (by simp)).set 2 _ (by simp)).set 3 _ (by simp)).set 4 _ (by simp)).set 5 _ (by simp)), K3.out.qdk (Nat.le_refl _) _ _ _ _ _ _⟩
   case rest =>
   obtain ⟨gs, rfl, rfl, bs, kw⟩ := hcut
   have BS := qh bs
   have KW := qh (KR.out.trans' kw)
   replace B2 := qh (B2.out.kept kw)
   replace B4 := qh (B4.out.kept kw)
   replace B5 := qh (B5.out.kept kw)
   clear bs kw SK SUB KR
   obtain ⟨c0, c1, c2, c3, c4, c5⟩ := BS.out.c6
   go_upto_region 15 with (go_at_call 80; (with_reducible refine (NRM.out _).mono ?_); rintro e w14 ⟨rfl, hk14⟩)
   have K15 := qh (Kept.new (KW.out.trans' hk14) (.cells (LC0 n0 n1 n2).toArray 24))
   have BN := qh (Bx.new w14 (LC0 n0 n1 n2) 24 w14.heap.size rfl)
   replace B2 := qh ((B2.out.kept hk14).kept (Kept.new (Below.refl _ _) (.cells (LC0 n0 n1 n2).toArray 24)))
   replace B4 := qh ((B4.out.kept hk14).kept (Kept.new (Below.refl _ _) (.cells (LC0 n0 n1 n2).toArray 24)))
   replace B5 := qh ((B5.out.kept hk14).kept (Kept.new (Below.refl _ _) (.cells (LC0 n0 n1 n2).toArray 24)))
   obtain ⟨gn, hg⟩ : ∃ g, g = w14.heap.size := ⟨_, rfl⟩
   rw [← hg] at BN ⊢
   clear hg hk14
   generalize (w14.alloc (.cells (LC0 n0 n1 n2).toArray 24)) = w15 at *
   clear c0 c1 c2 c3 c4 c5 NRM BS KW
   rcases hs6 with rfl | rfl
   rotate_left
   ·have HE := qh (show E = 4 from by
     have h8 := HFEE.out
     rw [if_neg (fun h => absurd h.1 (by decide))] at h8
     have h9 := HC2.out; simp at h9; exact h9 h8.symm)
    obtain ⟨re0, re1⟩ : (World.cell? _ ⟨b + 1, 0, none⟩ = some (.complex .f64 0 0)) ∧ (World.cell? _ ⟨b + 1, 1, none⟩ = some (.float .f64 0)) := ⟨(B1.out.kept K15.out).c 0 rfl, (B1.out.kept K15.out).c 1 rfl⟩
    obtain ⟨rf0, rf1⟩ : (World.frozen? _ ⟨b + 1, 0, none⟩ = false) ∧ (World.frozen? _ ⟨b + 1, 1, none⟩ = false) := ⟨(B1.out.kept K15.out).f 0, (B1.out.kept K15.out).f 1⟩
    go_wp2_with fail
    exact bodyPost_ret (v := .tuple #[.agg #[.complex .f64 0 0, .float .f64 0], .int .i64 4]) (by simp [results, results41, go_sem, re0, re1]) rfl (HPQ.out 4 0 0 0 _ HE.out.symm (by decide) (by decide) (by decide) (((K1.out.trans' K15.out).set (b := b + 1) (by have := HB.out; omega) 0 _).set (b := b + 1) (by have := HB.out; omega) 1 _))
   rcases hn3 with rfl | rfl
   rotate_left
   ·have HE := qh (show E = 4 from by
     have h8 := HFEE.out
     rw [if_neg (fun h => absurd h.2 (by decide))] at h8
     have h9 := HC2.out; simp at h9; exact h9 h8.symm)
    obtain ⟨re0, re1⟩ : (World.cell? _ ⟨b + 1, 0, none⟩ = some (.complex .f64 0 0)) ∧ (World.cell? _ ⟨b + 1, 1, none⟩ = some (.float .f64 0)) := ⟨(B1.out.kept K15.out).c 0 rfl, (B1.out.kept K15.out).c 1 rfl⟩
    obtain ⟨rf0, rf1⟩ : (World.frozen? _ ⟨b + 1, 0, none⟩ = false) ∧ (World.frozen? _ ⟨b + 1, 1, none⟩ = false) := ⟨(B1.out.kept K15.out).f 0, (B1.out.kept K15.out).f 1⟩
    go_wp2_with fail
    exact bodyPost_ret (v := .tuple #[.agg #[.complex .f64 0 0, .float .f64 0], .int .i64 4]) (by simp [results, results41, go_sem, re0, re1]) rfl (HPQ.out 4 0 0 0 _ HE.out.symm (by decide) (by decide) (by decide) (((K1.out.trans' K15.out).set (b := b + 1) (by have := HB.out; omega) 0 _).set (b := b + 1) (by have := HB.out; omega) 1 _))
   obtain ⟨c0, c1, c2⟩ := B5.out.c3
   obtain ⟨d0, d1, d2⟩ := BN.out.c3
   have HF2 := qh (show qd0 ⟨⟨z0, z1, z2⟩, ⟨z3, z4, z5⟩⟩ (L.drop (k + 1)) (if 0 < -cc then ⟨n0, n1, n2⟩ else ⟨m0, m1, m2⟩) = F from by have h8 := HFEE.out; rw [if_pos ⟨rfl, rfl⟩] at h8; exact h8)
   clear HFEE
   by_cases hcc : cc < 0
   ·have HF3 := qh (show qd0 ⟨⟨z0, z1, z2⟩, ⟨z3, z4, z5⟩⟩ (L.drop (k + 1)) ⟨n0, n1, n2⟩ = F from by have h8 := HF2.out; rw [if_pos (by omega)] at h8; exact h8)
    clear HF2
    go_upto_region 18 with (go_at_call 81; (with_reducible refine (CMP.out _).mono ?_); rintro e w16 ⟨rfl, hk16⟩)
    replace B2 := qh (B2.out.kept hk16)
    replace B4 := qh (B4.out.kept hk16)
    replace B5 := qh (B5.out.kept hk16)
    replace BN := qh (BN.out.kept hk16)
    replace K15 := qh (K15.out.trans' hk16)
    clear c0 c1 c2 d0 d1 d2 hk16
    obtain ⟨c0, c1, c2⟩ := B5.out.c3
    obtain ⟨f0, f1, f2⟩ := B5.out.f3
    obtain ⟨d0, d1, d2⟩ := BN.out.c3
    go_wp2_with fail
    go_roundg gh
    case measure => omega
    case rel =>
     exact ⟨k + 1, ⟨n0, n1, n2⟩, by omega, by go_num, HNO.out, hN0.out, HF3.out, ((B5.out.set 0 _ (by simp)).set 1 _ (by simp)).set 2 _ (by simp), ((B2.out.far ⟨q, 0, none⟩ HGQ.out.1 _).far ⟨q, 1, none⟩ HGQ.out.1 _).far ⟨q, 2, none⟩ HGQ.out.1 _, ((B4.out.far ⟨q, 0, none⟩ HGQ.out.2 _).far ⟨q, 1, none⟩ HGQ.out.2 _).far ⟨q, 2, none⟩ HGQ.out.2 _, K15.out.qaL HQ.out _ _ _⟩
   ·have HF3 := qh (show qd0 ⟨⟨z0, z1, z2⟩, ⟨z3, z4, z5⟩⟩ (L.drop (k + 1)) ⟨m0, m1, m2⟩ = F from by have h8 := HF2.out; rw [if_neg (by omega)] at h8; exact h8)
    clear HF2
    go_wp2_with (go_at_call 81; (with_reducible refine (CMP.out _).mono ?_); rintro e w16 ⟨rfl, hk16⟩; replace B2 := qh (B2.out.kept hk16); replace B4 := qh (B4.out.kept hk16); replace B5 := qh (B5.out.kept hk16); replace K15 := qh (K15.out.trans' hk16); clear hk16)
    go_roundg gh
    case measure => omega
    case rel =>
     exact ⟨k + 1, ⟨m0, m1, m2⟩, by omega, by go_num, HMO.out, HM0.out, HF3.out, B5.out, B2.out, B4.out, K15.out⟩
theorem qgI (s : SqD) (w : World) (hs : sqB s = true) :
  Calls prog 41 #[.agg #[.bool s.left.neg, .string s.left.n, .int .i64 s.left.e, .bool s.low.neg, .string s.low.n, .int .i64 s.low.e, .int .i64 s.e]] w fun en w' => ∃ c1 c2 r : Nat, c1 < 18446744073709551616 ∧ c2 < 18446744073709551616 ∧ r < 18446744073709551616 ∧ en = .returned (.tuple #[.agg #[.complex .f64 c1 c2, .float .f64 r], .int .i64 (qaj s).2]) ∧ Kept w w' := by
 by_cases h : (qaN s).2 = 0 ∧ (qaZ s).2 = 0
 ·exact qjq s (qaN s).1 (qaZ s).1 w hs (qce _ _ (qas.1 hs).1) (qce _ _ (qas.1 hs).2.1) (by unfold qaA; rw [if_pos h])
 ·exact qjo s w hs (by unfold qaA; rw [if_neg h])
end
inductive TrT where
 | leaf (s : SqD) (d : Nat) (t : Nat)
 | node (s : SqD) (d : Nat) (a b c e : TrT)
namespace TrT
def sq : TrT → SqD
 | leaf s _ _ => s
 | node s _ _ _ _ _ => s
def leaves : TrT → List (SqD × Nat)
 | leaf s _ t => [(s, t)]
 | node _ _ a b c e => a.leaves ++ (b.leaves ++ (c.leaves ++ e.leaves))
def qhb (t : Nat) : UInt8 := if t = 1 then 105 else if t = 2 then 111 else 117
def bytes : TrT → List UInt8
 | leaf _ _ t => [qhb t]
 | node _ _ a b c e => 112 :: (a.bytes ++ (b.bytes ++ (c.bytes ++ e.bytes)))
def size : TrT → Nat
 | leaf _ _ _ => 1
 | node _ _ a b c e => 1 + (a.size + (b.size + (c.size + e.size)))
theorem size_pos : ∀ t : TrT, 0 < t.size
 | leaf _ _ _ => by simp [size]
 | node _ _ _ _ _ _ => by simp [size]; omega
end TrT
structure NdD where
 sq : SqD
 told : Nat
 depth : Nat
 kids : Option (Nat × Nat × Nat × Nat)
inductive qb9 (L : List NdD) : Nat → TrT → Prop
 | leaf (k : Nat) (n : NdD) : L[k]? = some n → n.kids = none → qb9 L k (.leaf n.sq n.depth n.told)
 | node (k : Nat) (n : NdD) (p q r s : Nat) (a b c e : TrT) : L[k]? = some n → n.kids = some (p, q, r, s) → qb9 L p a → qb9 L q b → qb9 L r c → qb9 L s e → qb9 L k (.node n.sq n.depth a b c e)
theorem qb9.uniq {L : List NdD} {k : Nat} {t u : TrT} (h : qb9 L k t) (g : qb9 L k u) : t = u := by
 induction h generalizing u with
 | leaf k n h1 h2 =>
  cases g with
  | leaf _ m g1 g2 => rw [h1] at g1; cases g1; rfl
  | node _ m _ _ _ _ _ _ _ _ g1 g2 => rw [h1] at g1; cases g1; rw [h2] at g2; cases g2
 | node k n p q r s a b c e h1 h2 _ _ _ _ i1 i2 i3 i4 =>
  cases g with
  | leaf _ m g1 g2 => rw [h1] at g1; cases g1; rw [h2] at g2; cases g2
  | node _ m p' q' r' s' a' b' c' e' g1 g2 k1 k2 k3 k4 =>
   rw [h1] at g1; cases g1
   rw [h2] at g2; cases g2
   rw [i1 k1, i2 k2, i3 k3, i4 k4]
def qcD (s : SqD) : Option (SqD × SqD × SqD × SqD) := match qbp s with
 | some [a, b, c, e] => if (qaj a).2 = 0 ∧ (qaj b).2 = 0 ∧ (qaj c).2 = 0 ∧ (qaj e).2 = 0 then some (a, b, c, e) else none
 | _ => none
def qku (L : List NdD) : Nat := (L.map NdD.depth).foldl max 0
def NdD.part (n : NdD) (m : Nat) : NdD := { n with kids := some (m, m + 1, m + 2, m + 3) }
section
def qfq (n : NdD) (s : SqD) (t : Nat) : NdD := ⟨s, t, n.depth + 1, none⟩
def qak (L : List NdD) (k : Nat) (n : NdD) (q : SqD × SqD × SqD × SqD) (t : SqD → Nat) : List NdD := L.set k (n.part L.length) ++ [qfq n q.1 (t q.1), qfq n q.2.1 (t q.2.1), qfq n q.2.2.1 (t q.2.2.1), qfq n q.2.2.2 (t q.2.2.2)]
structure StD where
 L : List NdD
 n : Nat
def qal (S : StD) (k : Nat) : Option (NdD × (SqD × SqD × SqD × SqD)) := match S.L[k]? with
 | none => none
 | some n => if n.kids = none ∧ n.told = 0 ∧ n.depth < 40 ∧ S.n + 3 ≤ 65536 then (qcD n.sq).map fun q => (n, q) else none
def qaH (t : SqD → Nat) (S : StD) (k : Nat) : StD × Bool := match qal S k with
 | none => (S, false)
 | some (n, q) => (⟨qak S.L k n q t, S.n + 3⟩, true)
section
variable {L : List NdD} {k : Nat} {n : NdD} {q : SqD × SqD × SqD × SqD} {t : SqD → Nat}
theorem qat : (qak L k n q t).length = L.length + 4 := by simp [qak]
theorem qaE {j : Nat} (hj : j < L.length) (hk : j ≠ k) : (qak L k n q t)[j]? = L[j]? := by
 unfold qak
 rw [List.getElem?_append_left (by simpa using hj), List.getElem?_set_ne (fun e => hk e.symm)]
theorem qcM (hk : k < L.length) : (qak L k n q t)[k]? = some (n.part L.length) := by
 unfold qak
 rw [List.getElem?_append_left (by simpa using hk), List.getElem?_set_self hk]
theorem qcN : (qak L k n q t)[L.length]? = some (qfq n q.1 (t q.1)) ∧ (qak L k n q t)[L.length + 1]? = some (qfq n q.2.1 (t q.2.1)) ∧ (qak L k n q t)[L.length + 2]? = some (qfq n q.2.2.1 (t q.2.2.1)) ∧ (qak L k n q t)[L.length + 3]? = some (qfq n q.2.2.2 (t q.2.2.2)) := by
 unfold qak
 refine ⟨?_, ?_, ?_, ?_⟩ <;> (rw [List.getElem?_append_right (by simp)]; simp)
end
def qcy (L : List NdD) : Prop := ∀ (k : Nat) (n : NdD) (p q r s : Nat), L[k]? = some n → n.kids = some (p, q, r, s) → (k < p ∧ p < L.length) ∧ (k < q ∧ q < L.length) ∧ (k < r ∧ r < L.length) ∧ (k < s ∧ s < L.length)
theorem qff {L : List NdD} {k j : Nat} {n m : NdD} {q : SqD × SqD × SqD × SqD} {t : SqD → Nat} (hk : k < L.length) (h : (qak L k n q t)[j]? = some m) : (j = k ∧ m = n.part L.length) ∨ (j < L.length ∧ j ≠ k ∧ L[j]? = some m) ∨ (L.length ≤ j ∧ m.kids = none ∧ m.depth = n.depth + 1 ∧ ∃ s, (s = q.1 ∨ s = q.2.1 ∨ s = q.2.2.1 ∨ s = q.2.2.2) ∧ m.sq = s ∧ m.told = t s) := by
 by_cases h1 : j < L.length
 ·by_cases h2 : j = k
  ·subst h2; rw [qcM hk] at h; cases h; exact .inl ⟨rfl, rfl⟩
  ·rw [qaE h1 h2] at h; exact .inr (.inl ⟨h1, h2, h⟩)
 ·have h3 := (List.getElem?_eq_some_iff.1 h).1
  rw [qat] at h3
  obtain ⟨g0, g1, g2, g3⟩ := qcN (L := L) (k := k) (n := n) (q := q) (t := t)
  rcases (show j = L.length ∨ j = L.length + 1 ∨ j = L.length + 2 ∨ j = L.length + 3 by omega) with rfl | rfl | rfl | rfl
  ·rw [g0] at h; cases h; exact .inr (.inr ⟨by omega, rfl, rfl, _, .inl rfl, rfl, rfl⟩)
  ·rw [g1] at h; cases h; exact .inr (.inr ⟨by omega, rfl, rfl, _, .inr (.inl rfl), rfl, rfl⟩)
  ·rw [g2] at h; cases h; exact .inr (.inr ⟨by omega, rfl, rfl, _, .inr (.inr (.inl rfl)), rfl, rfl⟩)
  ·rw [g3] at h; cases h; exact .inr (.inr ⟨by omega, rfl, rfl, _, .inr (.inr (.inr rfl)), rfl, rfl⟩)
theorem qcy.grown {L : List NdD} (h : qcy L) {k : Nat} {n : NdD} (hk : L[k]? = some n) (q : SqD × SqD × SqD × SqD) (t : SqD → Nat) : qcy (qak L k n q t) := by
 have hl := (List.getElem?_eq_some_iff.1 hk).1
 intro j m a b c d hj hm
 rw [qat]
 rcases qff hl hj with ⟨rfl, rfl⟩ | ⟨h1, h2, h3⟩ | ⟨h1, h2, h3⟩
 ·cases hm; omega
 ·have := h j m a b c d h3 hm; omega
 ·rw [h2] at hm; cases hm
inductive qbf (L : List NdD) : Nat → TrT → List Nat → Prop
 | leaf (k : Nat) (n : NdD) : L[k]? = some n → n.kids = none → qbf L k (.leaf n.sq n.depth n.told) [k]
 | node (k : Nat) (n : NdD) (p q r s : Nat) (a b c e : TrT) (P Q R S : List Nat) : L[k]? = some n → n.kids = some (p, q, r, s) → qbf L p a P → qbf L q b Q → qbf L r c R → qbf L s e S → qbf L k (.node n.sq n.depth a b c e) (k :: (P ++ (Q ++ (R ++ S))))
theorem qbf.tree {L : List NdD} {k : Nat} {t : TrT} {P : List Nat} (h : qbf L k t P) : qb9 L k t := by
 induction h with
 | leaf k n h1 h2 => exact .leaf k n h1 h2
 | node k n p q r s a b c e P Q R S h1 h2 _ _ _ _ i1 i2 i3 i4 => exact .node k n p q r s a b c e h1 h2 i1 i2 i3 i4
theorem qbf.size {L : List NdD} {k : Nat} {t : TrT} {P : List Nat} (h : qbf L k t P) : P.length = t.size := by
 induction h with
 | leaf k n h1 h2 => rfl
 | node k n p q r s a b c e P Q R S h1 h2 _ _ _ _ i1 i2 i3 i4 => simp [TrT.size, i1, i2, i3, i4]; omega
theorem qbf.mono {L M : List NdD} {k : Nat} {t : TrT} {P : List Nat} (h : qbf L k t P) (hm : ∀ j ∈ P, M[j]? = L[j]?) : qbf M k t P := by
 induction h with
 | leaf k n h1 h2 => exact .leaf k n ((hm k (by simp)).trans h1) h2
 | node k n p q r s a b c e P Q R S h1 h2 _ _ _ _ i1 i2 i3 i4 =>
  exact .node k n p q r s a b c e P Q R S ((hm k (by simp)).trans h1) h2 (i1 fun j hj => hm j (by simp [hj])) (i2 fun j hj => hm j (by simp [hj])) (i3 fun j hj => hm j (by simp [hj])) (i4 fun j hj => hm j (by simp [hj]))
theorem qbf.lt {L : List NdD} {k : Nat} {t : TrT} {P : List Nat} (h : qbf L k t P) : ∀ j ∈ P, j < L.length := by
 induction h with
 | leaf k n h1 h2 => intro j hj; simp at hj; subst hj; exact (List.getElem?_eq_some_iff.1 h1).1
 | node k n p q r s a b c e P Q R S h1 h2 _ _ _ _ i1 i2 i3 i4 =>
  intro j hj
  simp only [List.mem_cons, List.mem_append] at hj
  rcases hj with rfl | hj | hj | hj | hj
  ·exact (List.getElem?_eq_some_iff.1 h1).1
  ·exact i1 j hj
  ·exact i2 j hj
  ·exact i3 j hj
  ·exact i4 j hj
theorem qbf.grown {L : List NdD} {x : Nat} {m : NdD} (hx : L[x]? = some m) (hm : m.kids = none) (sq : SqD × SqD × SqD × SqD) (t : SqD → Nat) {k : Nat} {T : TrT} {P : List Nat} (h : qbf L k T P) (hn : P.Nodup) (hmem : x ∈ P) :
  ∃ T' P', qbf (qak L x m sq t) k T' P' ∧ P'.Perm (P ++ [L.length, L.length + 1, L.length + 2, L.length + 3]) := by
 have hl := (List.getElem?_eq_some_iff.1 hx).1
 have keep : ∀ {k : Nat} {T : TrT} {P : List Nat}, qbf L k T P → x ∉ P → qbf (qak L x m sq t) k T P := fun h hne => h.mono fun j hj => qaE (h.lt j hj) (fun e => hne (e ▸ hj))
 induction h with
 | leaf k n h1 h2 =>
  simp at hmem; subst hmem
  have hnm : n = m := Option.some.inj (h1.symm.trans hx)
  subst hnm
  obtain ⟨g0, g1, g2, g3⟩ := qcN (L := L) (k := x) (n := n) (q := sq) (t := t)
  refine ⟨_, _, .node x (n.part L.length) L.length (L.length + 1) (L.length + 2) (L.length + 3) _ _ _ _ _ _ _ _ (qcM hl) rfl (.leaf _ _ g0 rfl) (.leaf _ _ g1 rfl) (.leaf _ _ g2 rfl) (.leaf _ _ g3 rfl), ?_⟩
  exact List.Perm.refl _
 | node k n p q r s a b c e P Q R S h1 h2 k1 k2 k3 k4 i1 i2 i3 i4 =>
  have hne : k ≠ x := by
   rintro rfl; rw [h1] at hx; cases hx; rw [h2] at hm; cases hm
  have hk : (qak L x m sq t)[k]? = some n := by
   rw [qaE (List.getElem?_eq_some_iff.1 h1).1 hne]; exact h1
  have hn0 := hn
  rw [List.nodup_cons] at hn
  obtain ⟨-, hn⟩ := hn
  rw [List.nodup_append] at hn
  obtain ⟨nP, hn, dP⟩ := hn
  rw [List.nodup_append] at hn
  obtain ⟨nQ, hn, dQ⟩ := hn
  rw [List.nodup_append] at hn
  obtain ⟨nR, nS, dR⟩ := hn
  simp only [List.mem_cons, List.mem_append] at hmem
  have perm : ∀ (A B X Y : List Nat), Y.Perm (X ++ [L.length, L.length + 1, L.length + 2, L.length + 3]) → (A ++ (Y ++ B)).Perm (A ++ (X ++ B) ++ [L.length, L.length + 1, L.length + 2, L.length + 3]) := by
   intro A B X Y h
   rw [List.append_assoc]
   refine List.Perm.append_left A ?_
   refine (List.Perm.append_right B h).trans ?_
   rw [List.append_assoc, List.append_assoc]
   exact List.Perm.append_left X List.perm_append_comm
  rcases hmem with e0 | h | h | h | h
  ·exact absurd e0.symm hne
  ·obtain ⟨T', P', a1, a2⟩ := i1 nP h
   refine ⟨_, _, .node k n p q r s T' b c e P' Q R S hk h2 a1 (keep k2 fun hq => dP x h x (by simp [hq]) rfl) (keep k3 fun hq => dP x h x (by simp [hq]) rfl) (keep k4 fun hq => dP x h x (by simp [hq]) rfl), ?_⟩
   exact List.Perm.cons k (perm [] (Q ++ (R ++ S)) P P' a2)
  ·obtain ⟨T', P', a1, a2⟩ := i2 nQ h
   refine ⟨_, _, .node k n p q r s a T' c e P P' R S hk h2 (keep k1 fun hq => dP x hq x (by simp [h]) rfl) a1 (keep k3 fun hq => dQ x h x (by simp [hq]) rfl) (keep k4 fun hq => dQ x h x (by simp [hq]) rfl), ?_⟩
   exact List.Perm.cons k (perm P (R ++ S) Q P' a2)
  ·obtain ⟨T', P', a1, a2⟩ := i3 nR h
   refine ⟨_, _, .node k n p q r s a b T' e P Q P' S hk h2 (keep k1 fun hq => dP x hq x (by simp [h]) rfl) (keep k2 fun hq => dQ x hq x (by simp [h]) rfl) a1 (keep k4 fun hq => dR x h x hq rfl), ?_⟩
   have := perm (P ++ Q) S R P' a2
   rw [List.cons_append]
   refine List.Perm.cons k ?_
   simp only [List.append_assoc] at this ⊢
   exact this
  ·obtain ⟨T', P', a1, a2⟩ := i4 nS h
   refine ⟨_, _, .node k n p q r s a b c T' P Q R P' hk h2 (keep k1 fun hq => dP x hq x (by simp [h]) rfl) (keep k2 fun hq => dQ x hq x (by simp [h]) rfl) (keep k3 fun hq => dR x hq x h rfl) a1, ?_⟩
   have := perm (P ++ (Q ++ R)) [] S P' a2
   rw [List.cons_append]
   refine List.Perm.cons k ?_
   simp only [List.append_assoc, List.append_nil] at this ⊢
   exact this
structure Whole (S : StD) : Prop where
 tree : ∃ T P, qbf S.L 0 T P ∧ P.Perm (List.range S.L.length)
 kids : qcy S.L
 count : 4 * S.n = 3 * S.L.length + 1
 some_ : 0 < S.L.length
 few : S.n ≤ 65536
theorem qjU (n : Nat) : List.range n ++ [n, n + 1, n + 2, n + 3] = List.range (n + 4) := by
 rw [List.range_succ (n := n + 3), List.range_succ (n := n + 2), List.range_succ (n := n + 1), List.range_succ]
 simp
theorem qa5 {S : StD} {k : Nat} {n : NdD} {q : SqD × SqD × SqD × SqD} (h : qal S k = some (n, q)) : S.L[k]? = some n ∧ n.kids = none ∧ n.told = 0 ∧ n.depth < 40 ∧ S.n + 3 ≤ 65536 ∧ qcD n.sq = some q := by
 unfold qal at h
 cases hk : S.L[k]? with
 | none => rw [hk] at h; cases h
 | some m =>
  rw [hk] at h
  simp only at h
  split at h
  ·rename_i h1
   cases hp : qcD m.sq with
   | none => rw [hp] at h; cases h
   | some q' =>
    rw [hp] at h
    cases h
    exact ⟨rfl, h1.1, h1.2.1, h1.2.2.1, h1.2.2.2, hp⟩
  ·cases h
theorem Whole.part {S : StD} (h : Whole S) (t : SqD → Nat) (k : Nat) : Whole (qaH t S k).1 := by
 unfold qaH
 cases hs : qal S k with
 | none => exact h
 | some x =>
  obtain ⟨n, q⟩ := x
  obtain ⟨h1, h2, h3, h4, h5, h6⟩ := qa5 hs
  have hl := (List.getElem?_eq_some_iff.1 h1).1
  obtain ⟨T, P, t1, t2⟩ := h.tree
  obtain ⟨T', P', u1, u2⟩ := qbf.grown h1 h2 q t t1 (t2.nodup_iff.2 List.nodup_range) (t2.mem_iff.2 (List.mem_range.2 hl))
  refine ⟨⟨T', P', u1, ?_⟩, h.kids.grown h1 q t, ?_, ?_, h5⟩
  ·show P'.Perm (List.range (qak S.L k n q t).length)
   rw [qat, ← qjU]
   exact u2.trans (List.Perm.append_right _ t2)
  ·show 4 * (S.n + 3) = 3 * (qak S.L k n q t).length + 1
   rw [qat]; have := h.count; omega
  ·show 0 < (qak S.L k n q t).length
   rw [qat]; omega
def qci (L : List NdD) (g : GsD) : List Nat → Nat × Int
 | [] => (0, 271)
 | k :: l => match L[k]? with
  | none => (0, 271)
  | some n => match qcg n.sq g with
   | none => (0, 4)
   | some true => (k, 0)
   | some false => qci L g l
def qez (L : List NdD) (g : GsD) : Nat → Nat → Nat × Int
 | 0, _ => (0, 271)
 | f + 1, k => match L[k]? with
  | none => (0, 271)
  | some n => match n.kids with
   | none => (k, 0)
   | some (p, q, r, s) => if (qci L g [p, q, r, s]).2 = 0 then qez L g f (qci L g [p, q, r, s]).1 else (0, (qci L g [p, q, r, s]).2)
def findD (L : List NdD) (g : GsD) : Nat × Int := if gsB g then (match L[0]? with
 | none => (0, 271)
 | some n => match qcg n.sq g with
  | none => (0, 4)
  | some false => (0, 271)
  | some true => qez L g L.length 0) else (0, 2)
theorem qf5 {L M : List NdD} {g : GsD} : ∀ (l : List Nat), (∀ k ∈ l, ∀ n, L[k]? = some n → ∃ m, M[k]? = some m ∧ m.sq = n.sq) → (∀ k ∈ l, k < L.length) → qci M g l = qci L g l
 | [], _, _ => rfl
 | k :: l, h, hl => by
  have hk := hl k (List.mem_cons_self ..)
  obtain ⟨m, h1, h2⟩ := h k (List.mem_cons_self ..) _ (List.getElem?_eq_getElem hk)
  unfold qci
  rw [List.getElem?_eq_getElem hk, h1]
  simp only
  rw [h2, qf5 l (fun j hj => h j (List.mem_cons_of_mem _ hj)) (fun j hj => hl j (List.mem_cons_of_mem _ hj))]
theorem qhW {L : List NdD} {x : Nat} {m : NdD} (hx : L[x]? = some m) (sq : SqD × SqD × SqD × SqD) (t : SqD → Nat) {k : Nat} {n : NdD} (hk : L[k]? = some n) : ∃ m', (qak L x m sq t)[k]? = some m' ∧ m'.sq = n.sq := by
 by_cases h : k = x
 ·subst h
  rw [hx] at hk; cases hk
  exact ⟨_, qcM (List.getElem?_eq_some_iff.1 hx).1, rfl⟩
 ·exact ⟨n, (qaE (List.getElem?_eq_some_iff.1 hk).1 h).trans hk, rfl⟩
theorem qgR {L : List NdD} (hK : qcy L) {x : Nat} {m : NdD} (hx : L[x]? = some m) (hm : m.kids = none) (sq : SqD × SqD × SqD × SqD) (t : SqD → Nat) (g : GsD) (y : Nat) (hy : y ≠ x) :
  ∀ (f k f' : Nat), f ≤ f' → qez L g f k = (y, 0) → qez (qak L x m sq t) g f' k = (y, 0)
 | 0, k, f', _, h => by cases h
 | f + 1, k, f', hf, h => by
  obtain ⟨f', rfl⟩ : ∃ j, f' = j + 1 := ⟨f' - 1, by omega⟩
  unfold qez at h ⊢
  cases hk : L[k]? with
  | none => rw [hk] at h; cases h
  | some n =>
   rw [hk] at h
   simp only at h
   cases hn : n.kids with
   | none =>
    rw [hn] at h
    obtain rfl : k = y := (Prod.mk.inj h).1
    rw [qaE (List.getElem?_eq_some_iff.1 hk).1 hy, hk]
    simp only [hn]
   | some w =>
    obtain ⟨p, q, r, s⟩ := w
    rw [hn] at h
    simp only at h
    have hne : k ≠ x := by rintro rfl; rw [hx] at hk; cases hk; rw [hm] at hn; cases hn
    have hkk := hK k n p q r s hk hn
    have hsame : qci (qak L x m sq t) g [p, q, r, s] = qci L g [p, q, r, s] := by
     refine qf5 _ (fun j _ n hj => qhW hx sq t hj) ?_
     intro j hj
     simp only [List.mem_cons, List.not_mem_nil, or_false] at hj
     rcases hj with rfl | rfl | rfl | rfl <;> omega
    rw [qaE (List.getElem?_eq_some_iff.1 hk).1 hne, hk]
    simp only [hn]
    rw [hsame]
    split at h
    ·rename_i h0
     rw [if_pos h0]
     exact qgR hK hx hm sq t g y hy f _ f' (by omega) h
    ·rename_i h0; exact absurd (Prod.mk.inj h).2 h0
theorem qg3 {L : List NdD} {g : GsD} {y : Nat} : ∀ (f k : Nat), qez L g f k = (y, 0) → ∃ n, L[y]? = some n ∧ n.kids = none
 | 0, k, h => by cases h
 | f + 1, k, h => by
  unfold qez at h
  cases hk : L[k]? with
  | none => rw [hk] at h; cases h
  | some n =>
   rw [hk] at h
   simp only at h
   cases hn : n.kids with
   | none =>
    rw [hn] at h
    obtain rfl : k = y := (Prod.mk.inj h).1
    exact ⟨n, hk, hn⟩
   | some w =>
    obtain ⟨p, q, r, s⟩ := w
    rw [hn] at h
    simp only at h
    split at h
    ·exact qg3 f _ h
    ·rename_i h0; exact absurd (Prod.mk.inj h).2 h0
theorem qeS {L : List NdD} {g : GsD} {y : Nat} (h : findD L g = (y, 0)) : ∃ n, L[y]? = some n ∧ n.kids = none := by
 unfold findD at h
 split at h
 ·cases h0 : L[0]? with
  | none => rw [h0] at h; cases h
  | some n =>
   rw [h0] at h
   simp only at h
   cases hh : qcg n.sq g with
   | none => rw [hh] at h; cases h
   | some b =>
    rw [hh] at h
    cases b with
    | true => exact qg3 _ _ h
    | false => cases h
 ·cases h
theorem qeX {L : List NdD} (hK : qcy L) {x : Nat} {m : NdD} (hx : L[x]? = some m) (hm : m.kids = none) (sq : SqD × SqD × SqD × SqD) (t : SqD → Nat) {g : GsD} {y : Nat} (hy : y ≠ x) (h : findD L g = (y, 0)) : findD (qak L x m sq t) g = (y, 0) := by
 unfold findD at h ⊢
 split at h
 ·rename_i hg
  rw [if_pos hg]
  cases h0 : L[0]? with
  | none => rw [h0] at h; cases h
  | some n =>
   obtain ⟨m', h1, h2⟩ := qhW hx sq t h0
   rw [h0] at h
   rw [h1]
   simp only at h ⊢
   rw [h2]
   cases hh : qcg n.sq g with
   | none => rw [hh] at h; cases h
   | some b =>
    rw [hh] at h
    cases b with
    | true => exact qgR hK hx hm sq t g y hy _ _ _ (by rw [qat]; omega) h
    | false => cases h
 ·cases h
def qaV (t : SqD → Nat) (S : StD) (g : GsD) : StD := if (findD S.L g).2 = 0 then (qaH t S (findD S.L g).1).1 else S
theorem Whole.qaV {S : StD} (hS : Whole S) (t : SqD → Nat) (g : GsD) : Whole (qaV t S g) := by
 unfold Go.Proofs.YtfdnledkcongaaaGreatDoor.qaV
 split
 ·exact hS.part t _
 ·exact hS
theorem qlB {L : List NdD} (hK : qcy L) {x y : Nat} {nx ny : NdD} (hx : L[x]? = some nx) (hy : L[y]? = some ny) (hxn : nx.kids = none) (hyn : ny.kids = none) (hne : x ≠ y) (qx qy : SqD × SqD × SqD × SqD) (t : SqD → Nat)
  {k : Nat} {T : TrT} (h : qb9 (qak (qak L x nx qx t) y ny qy t) k T) (hk : k < L.length) : qb9 (qak (qak L y ny qy t) x nx qx t) k T := by
 have lx := (List.getElem?_eq_some_iff.1 hx).1
 have ly := (List.getElem?_eq_some_iff.1 hy).1
 have hA : ∀ j, j < L.length → (j = x → (qak (qak L x nx qx t) y ny qy t)[j]? = some (nx.part L.length)) ∧ (j = y → (qak (qak L x nx qx t) y ny qy t)[j]? = some (ny.part (L.length + 4))) ∧ (j ≠ x → j ≠ y → (qak (qak L x nx qx t) y ny qy t)[j]? = L[j]?) := by
  intro j hj
  refine ⟨?_, ?_, ?_⟩
  ·rintro rfl
   rw [qaE (by rw [qat]; omega) hne, qcM lx]
  ·rintro rfl
   rw [qcM (by rw [qat]; omega), qat]
  ·intro h1 h2
   rw [qaE (by rw [qat]; omega) h2, qaE hj h1]
 have hB : ∀ j, j < L.length → (j = x → (qak (qak L y ny qy t) x nx qx t)[j]? = some (nx.part (L.length + 4))) ∧ (j = y → (qak (qak L y ny qy t) x nx qx t)[j]? = some (ny.part L.length)) ∧ (j ≠ x → j ≠ y → (qak (qak L y ny qy t) x nx qx t)[j]? = L[j]?) := by
  intro j hj
  refine ⟨?_, ?_, ?_⟩
  ·rintro rfl
   rw [qcM (by rw [qat]; omega), qat]
  ·rintro rfl
   rw [qaE (by rw [qat]; omega) (fun e => hne e.symm), qcM ly]
  ·intro h1 h2
   rw [qaE (by rw [qat]; omega) h1, qaE hj h2]
 have kx := qcN (L := L) (k := x) (n := nx) (q := qx) (t := t)
 have ky := qcN (L := L) (k := y) (n := ny) (q := qy) (t := t)
 have kxB := qcN (L := qak L y ny qy t) (k := x) (n := nx) (q := qx) (t := t)
 have kyA := qcN (L := qak L x nx qx t) (k := y) (n := ny) (q := qy) (t := t)
 rw [qat] at kxB kyA
 have hAx : ∀ i, i < 4 → (qak (qak L x nx qx t) y ny qy t)[L.length + i]? = (qak L x nx qx t)[L.length + i]? := fun i hi => qaE (by rw [qat]; omega) (by omega)
 have hBy : ∀ i, i < 4 → (qak (qak L y ny qy t) x nx qx t)[L.length + i]? = (qak L y ny qy t)[L.length + i]? := fun i hi => qaE (by rw [qat]; omega) (by omega)
 have leafA : ∀ {M : List NdD} {j : Nat} {n : NdD} {T : TrT}, M[j]? = some n → n.kids = none → qb9 M j T → T = .leaf n.sq n.depth n.told := fun h1 h2 h3 => h3.uniq (.leaf _ _ h1 h2)
 induction h with
 | leaf k n h1 h2 =>
  have e1 : k ≠ x := by rintro rfl; rw [(hA k hk).1 rfl] at h1; cases h1; cases h2
  have e2 : k ≠ y := by rintro rfl; rw [(hA k hk).2.1 rfl] at h1; cases h1; cases h2
  rw [(hA k hk).2.2 e1 e2] at h1
  exact .leaf k n (((hB k hk).2.2 e1 e2).trans h1) h2
 | node k n p q r s a b c e h1 h2 j1 j2 j3 j4 i1 i2 i3 i4 =>
  by_cases e1 : k = x
  ·subst e1
   rw [(hA k hk).1 rfl] at h1
   cases h1
   cases h2
   have a0 := hAx 0 (by omega)
   have a1 := hAx 1 (by omega)
   have a2 := hAx 2 (by omega)
   have a3 := hAx 3 (by omega)
   rw [leafA (a0.trans kx.1) rfl j1, leafA (a1.trans kx.2.1) rfl j2, leafA (a2.trans kx.2.2.1) rfl j3, leafA (a3.trans kx.2.2.2) rfl j4]
   exact .node k (nx.part (L.length + 4)) _ _ _ _ _ _ _ _ ((hB k hk).1 rfl) rfl (.leaf _ _ kxB.1 rfl) (.leaf _ _ kxB.2.1 rfl) (.leaf _ _ kxB.2.2.1 rfl) (.leaf _ _ kxB.2.2.2 rfl)
  ·by_cases e2 : k = y
   ·subst e2
    rw [(hA k hk).2.1 rfl] at h1
    cases h1
    cases h2
    have a0 := hBy 0 (by omega)
    have a1 := hBy 1 (by omega)
    have a2 := hBy 2 (by omega)
    have a3 := hBy 3 (by omega)
    rw [leafA kyA.1 rfl j1, leafA kyA.2.1 rfl j2, leafA kyA.2.2.1 rfl j3, leafA kyA.2.2.2 rfl j4]
    exact .node k (ny.part L.length) _ _ _ _ _ _ _ _ ((hB k hk).2.1 rfl) rfl (.leaf _ _ (a0.trans ky.1) rfl) (.leaf _ _ (a1.trans ky.2.1) rfl) (.leaf _ _ (a2.trans ky.2.2.1) rfl) (.leaf _ _ (a3.trans ky.2.2.2) rfl)
   ·rw [(hA k hk).2.2 e1 e2] at h1
    have hkk := hK k n p q r s h1 h2
    exact .node k n p q r s a b c e (((hB k hk).2.2 e1 e2).trans h1) h2 (i1 (by omega)) (i2 (by omega)) (i3 (by omega)) (i4 (by omega))
theorem qeO {S : StD} {k : Nat} {m : NdD} (h : qal S k = none) (hk : S.L[k]? = some m) (hn : S.n + 3 ≤ 65536) (S' : StD) (hk' : S'.L[k]? = some m) : qal S' k = none := by
 unfold qal at h ⊢
 rw [hk] at h
 rw [hk']
 simp only at h ⊢
 by_cases h1 : m.kids = none ∧ m.told = 0 ∧ m.depth < 40 ∧ S.n + 3 ≤ 65536
 ·rw [if_pos h1] at h
  cases hp : qcD m.sq with
  | none => simp
  | some q => rw [hp] at h; cases h
 ·rw [if_neg (fun h2 => h1 ⟨h2.1, h2.2.1, h2.2.2.1, hn⟩)]
theorem qeQ {S S' : StD} {k : Nat} {n : NdD} {q : SqD × SqD × SqD × SqD} (h : qal S k = some (n, q)) (hn : S'.n + 3 ≤ 65536) (hk : S'.L[k]? = S.L[k]?) : qal S' k = some (n, q) := by
 obtain ⟨h1, h2, h3, h4, h5, h6⟩ := qa5 h
 unfold qal
 rw [hk, h1]
 simp only
 rw [if_pos ⟨h2, h3, h4, hn⟩, h6]; rfl
theorem qkG (t : SqD → Nat) {S : StD} (hS : Whole S) {g h : GsD} {x y : Nat} (hg : findD S.L g = (x, 0)) (hh : findD S.L h = (y, 0)) (hne : x ≠ y) (hn : S.n + 6 ≤ 65536) :
  ∃ T, qb9 (qaV t (qaV t S g) h).L 0 T ∧ qb9 (qaV t (qaV t S h) g).L 0 T := by
 obtain ⟨nx, hx, hxn⟩ := qeS hg
 obtain ⟨ny, hy, hyn⟩ := qeS hh
 have eg : qaV t S g = (qaH t S x).1 := by unfold qaV; rw [hg]; rfl
 have eh : qaV t S h = (qaH t S y).1 := by unfold qaV; rw [hh]; rfl
 have wA : Whole (qaV t (qaV t S g) h) := (hS.qaV t g).qaV t h
 obtain ⟨T, P, tA, -⟩ := wA.tree
 refine ⟨T, tA.tree, ?_⟩
 have tA := tA.tree
 cases sx : qal S x with
 | none =>
  have e1 : qaV t S g = S := by rw [eg]; unfold qaH; rw [sx]
  rw [e1, eh] at tA
  rw [eh]
  cases sy : qal S y with
  | none =>
   have e2 : (qaH t S y).1 = S := by unfold qaH; rw [sy]
   rw [e2] at tA ⊢
   rw [e1]; exact tA
  | some w =>
   obtain ⟨n, q⟩ := w
   obtain ⟨h1, h2, -⟩ := qa5 sy
   have e2 : (qaH t S y).1 = ⟨qak S.L y n q t, S.n + 3⟩ := by unfold qaH; rw [sy]
   have e3 : findD (qak S.L y n q t) g = (x, 0) := qeX hS.kids h1 h2 q t hne hg
   have e4 : qaV t ⟨qak S.L y n q t, S.n + 3⟩ g = (qaH t ⟨qak S.L y n q t, S.n + 3⟩ x).1 := by unfold qaV; simp only [e3]; rfl
   have e5 : qal ⟨qak S.L y n q t, S.n + 3⟩ x = none := qeO sx hx (by omega) _ ((qaE (List.getElem?_eq_some_iff.1 hx).1 hne).trans hx)
   rw [e2] at tA ⊢
   rw [e4]
   unfold qaH
   rw [e5]
   exact tA
 | some w =>
  obtain ⟨n, q⟩ := w
  obtain ⟨h1, h2, -⟩ := qa5 sx
  obtain rfl : n = nx := Option.some.inj (h1.symm.trans hx)
  have e2 : (qaH t S x).1 = ⟨qak S.L x n q t, S.n + 3⟩ := by unfold qaH; rw [sx]
  have e3 : findD (qak S.L x n q t) h = (y, 0) := qeX hS.kids h1 h2 q t (fun e => hne e.symm) hh
  have e4 : qaV t ⟨qak S.L x n q t, S.n + 3⟩ h = (qaH t ⟨qak S.L x n q t, S.n + 3⟩ y).1 := by unfold qaV; simp only [e3]; rfl
  rw [eg, e2, e4] at tA
  cases sy : qal S y with
  | none =>
   have e5 : qal ⟨qak S.L x n q t, S.n + 3⟩ y = none := qeO sy hy (by omega) _ ((qaE (List.getElem?_eq_some_iff.1 hy).1 (fun e => hne e.symm)).trans hy)
   have e6 : qaV t S h = S := by rw [eh]; unfold qaH; rw [sy]
   unfold qaH at tA
   rw [e5] at tA
   rw [e6, eg, e2]
   exact tA
  | some w =>
   obtain ⟨n', q'⟩ := w
   obtain ⟨g1, g2, -⟩ := qa5 sy
   obtain rfl : n' = ny := Option.some.inj (g1.symm.trans hy)
   have e5 : qal ⟨qak S.L x n q t, S.n + 3⟩ y = some (n', q') := qeQ sy (by show S.n + 3 + 3 ≤ 65536; omega) (qaE (List.getElem?_eq_some_iff.1 hy).1 (fun e => hne e.symm))
   have f2 : (qaH t S y).1 = ⟨qak S.L y n' q' t, S.n + 3⟩ := by unfold qaH; rw [sy]
   have f3 : findD (qak S.L y n' q' t) g = (x, 0) := qeX hS.kids g1 g2 q' t hne hg
   have f4 : qaV t ⟨qak S.L y n' q' t, S.n + 3⟩ g = (qaH t ⟨qak S.L y n' q' t, S.n + 3⟩ x).1 := by unfold qaV; simp only [f3]; rfl
   have f5 : qal ⟨qak S.L y n' q' t, S.n + 3⟩ x = some (n, q) := qeQ sx (by show S.n + 3 + 3 ≤ 65536; omega) (qaE (List.getElem?_eq_some_iff.1 hx).1 hne)
   rw [eh, f2, f4]
   unfold qaH at tA ⊢
   rw [e5] at tA
   rw [f5]
   exact qlB hS.kids h1 g1 h2 g2 hne q q' t tA hS.some_
end
section
attribute [local go_sem] run_float_arith qaI qaJ qau qah qae
structure RuD where
 k : Int
 c : GsD
 r : DyD
 x : Nat
 y : Nat
structure RuD.ok (u : RuD) : Prop where
 k0 : -9223372036854775808 ≤ u.k
 k1 : u.k ≤ 9223372036854775807
 re : u.c.re.ok
 im : u.c.im.ok
 r : u.r.ok
 x : u.x < 18446744073709551616
 y : u.y < 18446744073709551616
def qk6 (u : RuD) (c1 c2 r : Nat) : Int :=
 if (gsB u.c && qad u.r) = true then
  if (qbE c1 c2).2 = 0 ∧ (qa9 r).2 = 0 then
   if qeK (qbE c1 c2).1 (qa9 r).1 u.c u.r = (true, 0) then 1
   else if qfS (qbE c1 c2).1 (qa9 r).1 u.c u.r = (true, 0) then 2 else 0
  else 0
 else 0
abbrev ruL (u : RuD) : List Value := [.int .i64 u.k, .bool u.c.re.neg, .string u.c.re.n, .int .i64 u.c.re.e, .bool u.c.im.neg, .string u.c.im.n, .int .i64 u.c.im.e, .bool u.r.neg, .string u.r.n, .int .i64 u.r.e, .float .f64 u.x, .float .f64 u.y]
set_option maxRecDepth 100000 in
set_option maxHeartbeats 3200000 in
theorem qlm (u : RuD) (hu : u.k = 1) (c1 c2 r : Nat) (w : World) :
  Calls prog 98 #[.agg (ruL u).toArray, .agg #[.complex .f64 c1 c2, .float .f64 r]] w fun en w' => en = .returned (.int .u8 (if (FloatKind.f64.format.order c1 u.x == some .gt) = true then 2 else if (FloatKind.f64.format.order r u.y == some .lt) = true then 1 else 0)) ∧ Kept w w' := by
 obtain ⟨k, ⟨⟨a0, a1, a2⟩, ⟨a3, a4, a5⟩⟩, ⟨a6, a7, a8⟩, x, y⟩ := u
 simp only at hu ⊢
 subst hu
 by_cases h1 : (FloatKind.f64.format.order c1 x == some .gt) = true
 ·rw [if_pos h1]
  go_enter func98, ntmps98
  go_upto_region 1 with fail
  obtain ⟨b, w1, hw, hb, B0, B1, K1, HB⟩ := qa7 w [.int .i64 1, .bool a0, .string a1, .int .i64 a2, .bool a3, .string a4, .int .i64 a5, .bool a6, .string a7, .int .i64 a8, .float .f64 x, .float .f64 y] 31 [.complex .f64 c1 c2, .float .f64 r] 85
  rw [← hw, ← hb]; clear hw hb
  have k0 := B0.out.c 0 rfl
  have k10 := B0.out.c 10 rfl
  have k11 := B0.out.c 11 rfl
  have l0 := B1.out.c 0 rfl
  have l1 := B1.out.c 1 rfl
  go_wp2_with fail
  exact bodyPost_ret (v := .int .u8 2) (by simp [results, results98, go_sem]) rfl ⟨rfl, K1.out⟩
 ·rw [if_neg h1]
  by_cases h2 : (FloatKind.f64.format.order r y == some .lt) = true
  ·rw [if_pos h2]
   go_enter func98, ntmps98
   go_upto_region 1 with fail
   obtain ⟨b, w1, hw, hb, B0, B1, K1, HB⟩ := qa7 w [.int .i64 1, .bool a0, .string a1, .int .i64 a2, .bool a3, .string a4, .int .i64 a5, .bool a6, .string a7, .int .i64 a8, .float .f64 x, .float .f64 y] 31 [.complex .f64 c1 c2, .float .f64 r] 85
   rw [← hw, ← hb]; clear hw hb
   have k0 := B0.out.c 0 rfl
   have k10 := B0.out.c 10 rfl
   have k11 := B0.out.c 11 rfl
   have l0 := B1.out.c 0 rfl
   have l1 := B1.out.c 1 rfl
   go_wp2_with fail
   exact bodyPost_ret (v := .int .u8 1) (by simp [results, results98, go_sem]) rfl ⟨rfl, K1.out⟩
  ·rw [if_neg h2]
   go_enter func98, ntmps98
   go_upto_region 1 with fail
   obtain ⟨b, w1, hw, hb, B0, B1, K1, HB⟩ := qa7 w [.int .i64 1, .bool a0, .string a1, .int .i64 a2, .bool a3, .string a4, .int .i64 a5, .bool a6, .string a7, .int .i64 a8, .float .f64 x, .float .f64 y] 31 [.complex .f64 c1 c2, .float .f64 r] 85
   rw [← hw, ← hb]; clear hw hb
   have k0 := B0.out.c 0 rfl
   have k10 := B0.out.c 10 rfl
   have k11 := B0.out.c 11 rfl
   have l0 := B1.out.c 0 rfl
   have l1 := B1.out.c 1 rfl
   go_wp2_with fail
   exact bodyPost_ret (v := .int .u8 0) (by simp [results, results98, go_sem]) rfl ⟨rfl, K1.out⟩
end
section
attribute [local go_sem] run_float_arith qaI qaJ qau qah qae
def qnm (i : Nat) : Int := if i = 1 ∨ i = 5 then 1 else if i = 2 then 2 else if i = 6 then 9 else 0
def qjF (k : Int) (c1 c2 r : Nat) : Int := IntKind.u64.wrap (IntKind.u64.wrap (IntKind.u64.wrap (IntKind.u64.wrap ((c1 : Int) * 3) + IntKind.u64.wrap ((c2 : Int) * 5)) + IntKind.u64.wrap ((r : Int) * 7)) + IntKind.u64.wrap k)
def qf0 (N : Int) : Int := IntKind.u64.wrap (bits BinOp.xor IntKind.u64 N (N / 2147483648) * 11400714819323198485)
def qoG (k : Int) (c1 c2 r : Nat) : Int := qnm (qf0 (qjF k c1 c2 r) / 2305843009213693952).toNat
theorem qmv (i : Nat) (hi : i < 8) (W : World) : (Instr.index 222 (.agg #[.int .u8 0, .int .u8 1, .int .u8 2, .int .u8 0, .int .u8 0, .int .u8 1, .int .u8 9, .int .u8 0]) (.int .u64 (i : Int))).run prog W = .ok (.int .u8 (qnm i)) W := by
 rcases (show i = 0 ∨ i = 1 ∨ i = 2 ∨ i = 3 ∨ i = 4 ∨ i = 5 ∨ i = 6 ∨ i = 7 by omega) with rfl | rfl | rfl | rfl | rfl | rfl | rfl | rfl <;> kernel_rfl
theorem qnb (N : Int) : 0 ≤ qf0 N ∧ qf0 N < 18446744073709551616 := by
 unfold qf0
 generalize bits BinOp.xor IntKind.u64 N (N / 2147483648) * 11400714819323198485 = x
 have e : IntKind.u64.wrap x = x % 18446744073709551616 := rfl
 rw [e]
 omega
set_option maxRecDepth 100000 in
set_option maxHeartbeats 3200000 in
theorem qlC (u : RuD) (hu0 : ¬ u.k = 0) (hu1 : ¬ u.k = 1) (c1 c2 r : Nat) (w : World) :
  Calls prog 98 #[.agg (ruL u).toArray, .agg #[.complex .f64 c1 c2, .float .f64 r]] w fun en w' => en = .returned (.int .u8 (qoG u.k c1 c2 r)) ∧ Kept w w' := by
 obtain ⟨k, ⟨⟨a0, a1, a2⟩, ⟨a3, a4, a5⟩⟩, ⟨a6, a7, a8⟩, x, y⟩ := u
 simp only at hu0 hu1 ⊢
 go_enter func98, ntmps98
 go_upto_region 1 with fail
 obtain ⟨b, w1, hw, hb, B0, B1, K1, HB⟩ := qa7 w [.int .i64 k, .bool a0, .string a1, .int .i64 a2, .bool a3, .string a4, .int .i64 a5, .bool a6, .string a7, .int .i64 a8, .float .f64 x, .float .f64 y] 31 [.complex .f64 c1 c2, .float .f64 r] 85
 rw [← hw, ← hb]; clear hw hb
 have k0 := B0.out.c 0 rfl
 have l0 := B1.out.c 0 rfl
 have l1 := B1.out.c 1 rfl
 go_upto_region 22 with fail
 clear k0 l0 l1
 have k0 := B0.out.c 0 rfl
 have l0 := B1.out.c 0 rfl
 have l1 := B1.out.c 1 rfl
 go_quiet (fail)
 obtain ⟨N, hN⟩ : ∃ N, N = qjF k c1 c2 r := ⟨_, rfl⟩
 unfold qjF at hN
 rw [← hN]
 have HN := qh hN
 clear hN k0 l0 l1
 go_upto_region 24 with fail
 obtain ⟨X, hX⟩ : ∃ X, X = qf0 N := ⟨_, rfl⟩
 have hlt := qnb N
 rw [← hX] at hlt
 unfold qf0 at hX
 rw [← hX]
 have HX := qh hX
 clear hX
 obtain ⟨i, hi⟩ : ∃ i : Nat, X / 2305843009213693952 = (i : Int) := ⟨(X / 2305843009213693952).toNat, by omega⟩
 have hi8 : i < 8 := by omega
 have HI := qmv i hi8
 clear hlt
 go_wp2_with fail
 exact bodyPost_ret (v := .int .u8 (qnm i)) (by simp [results, results98, go_sem]) rfl ⟨by
  have e1 : qf0 (qjF k c1 c2 r) = X := by rw [HX.out, HN.out]; rfl
  show Ending.returned (.int .u8 (qnm i)) = .returned (.int .u8 (qnm (qf0 (qjF k c1 c2 r) / 2305843009213693952).toNat))
  rw [e1, hi]; rfl, qaz K1.out _⟩
end
end Go.Proofs.YtfdnledkcongaaaGreatDoor
