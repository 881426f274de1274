/- Texts of one claim laid together: DoM, DoK, Pak, DoN, DoO, DoQ, Vie. -/
import Derived.Test.YtfdnledkcongaaaGreatDoorQ4
set_option linter.all false
namespace Go.Proofs.YtfdnledkcongaaaGreatDoor
open Go.RowKit Go.Proofs.Tryz
section
set_option maxHeartbeats 3200000
set_option maxRecDepth 100000
theorem qdX (x y : DyD) (w : World) (hx : qad x = true) (hy : qad y = true) :
  Calls prog 91 #[.agg #[.bool x.neg, .string x.n, .int .i64 x.e], .agg #[.bool y.neg, .string y.n, .int .i64 y.e]] w fun en w' => en = .returned (qaf (qaS x y)) ∧ Kept w w' := by
 by_cases hge : y.e ≤ x.e
 ·exact qk0 x y w hx hy hge
 ·by_cases h1 : x.num = 0
  ·have HA := qh (show qaS x y = (y, 0) by unfold qaS; rw [if_pos h1])
   obtain rfl := (qag hx).2.1 h1
   obtain ⟨yn, ys, ye⟩ := y
   show Calls prog 91 #[.agg #[.bool false, .string ⟨#[]⟩, .int .i64 0], .agg #[.bool yn, .string ys, .int .i64 ye]] w _
   clear h1 hx hy hge
   go_enter func91, ntmps91
   go_upto_region 1 with fail
   obtain ⟨b, w1, hw, hb, B0, B1, B2, K1, HB⟩ := qct w (LC0 false ⟨#[]⟩ 0) 24 (LC0 yn ys ye) 24 (LC0 false ⟨#[]⟩ 0) 24
   rw [← hw, ← hb]; clear hw hb
   obtain ⟨c0, c1, c2⟩ := B0.out.c3
   obtain ⟨d0, d1, d2⟩ := B1.out.c3
   obtain ⟨e0, e1, e2⟩ := B2.out.c3
   obtain ⟨f0, f1, f2⟩ := B2.out.f3
   go_wp2_with fail
   exact bodyPost_ret (v := qaf (⟨yn, ys, ye⟩, 0)) (by simp [results, results91, go_sem, e0, e1, e2, qaf]) rfl ⟨by rw [HA.out], K1.out.qaL (by have := HB.out; omega) _ _ _⟩
  ·have hxne := qe0 (qcG hx h1)
   by_cases h2 : y.num = 0
   ·have HA := qh (show qaS x y = (x, 0) by unfold qaS; rw [if_neg h1, if_pos h2])
    obtain rfl := (qag hy).2.1 h2
    obtain ⟨xn, xs, xe⟩ := x
    show Calls prog 91 #[.agg #[.bool xn, .string xs, .int .i64 xe], .agg #[.bool false, .string ⟨#[]⟩, .int .i64 0]] w _
    obtain ⟨hz, hz1⟩ := hxne
    simp only at hz hz1
    clear h1 h2 hx hy hge
    go_enter func91, ntmps91
    go_upto_region 1 with fail
    obtain ⟨b, w1, hw, hb, B0, B1, B2, K1, HB⟩ := qct w (LC0 xn xs xe) 24 (LC0 false ⟨#[]⟩ 0) 24 (LC0 false ⟨#[]⟩ 0) 24
    rw [← hw, ← hb]; clear hw hb
    obtain ⟨c0, c1, c2⟩ := B0.out.c3
    obtain ⟨d0, d1, d2⟩ := B1.out.c3
    obtain ⟨e0, e1, e2⟩ := B2.out.c3
    obtain ⟨f0, f1, f2⟩ := B2.out.f3
    go_wp2_with fail
    exact bodyPost_ret (v := qaf (⟨xn, xs, xe⟩, 0)) (by simp [results, results91, go_sem, e0, e1, e2, qaf]) rfl ⟨by rw [HA.out], K1.out.qaL (by have := HB.out; omega) _ _ _⟩
   ·have hyne := qe0 (qcG hy h2)
    have ADD : Hid (∀ W, Calls prog 91 #[.agg #[.bool y.neg, .string y.n, .int .i64 y.e], .agg #[.bool x.neg, .string x.n, .int .i64 x.e]] W fun en w' => en = .returned (qaf (qaS x y)) ∧ Kept W w') := fun W => by
     rw [qmq x y hx hy]
     exact qk0 y x W hy hx (by omega)
    generalize qaS x y = R at *
    obtain ⟨xn, xs, xe⟩ := x
    obtain ⟨yn, ys, ye⟩ := y
    simp only at hxne hyne ADD hge ⊢
    obtain ⟨hz, hz1⟩ := hxne
    obtain ⟨hz2, hz3⟩ := hyne
    have i1 : xe < ye := by omega
    clear h1 h2 hx hy hge
    go_enter func91, ntmps91
    go_upto_region 1 with fail
    obtain ⟨b, w1, hw, hb, B0, B1, B2, K1, HB⟩ := qct w (LC0 xn xs xe) 24 (LC0 yn ys ye) 24 (LC0 false ⟨#[]⟩ 0) 24
    rw [← hw, ← hb]; clear hw hb
    obtain ⟨c0, c1, c2⟩ := B0.out.c3
    obtain ⟨d0, d1, d2⟩ := B1.out.c3
    go_wp2_with (go_at_call 91; (with_reducible refine (ADD.out _).mono ?_); rintro e w2 ⟨rfl, hk2⟩; have K2 := qh hk2; obtain ⟨e0, e1, e2⟩ := (B2.out.kept hk2).c3; obtain ⟨f0, f1, f2⟩ := (B2.out.kept hk2).f3)
    exact bodyPost_ret (v := qaf R) (by simp [results, results91, go_sem, e0, e1, e2, qaf]) rfl ⟨rfl, (K1.out.trans' K2.out).qaL (by have := HB.out; omega) _ _ _⟩
theorem qnT (x y : DyD) (w : World) (hx : qad x = true) (hy : qad y = true) :
  Calls prog 175 #[.agg #[.bool x.neg, .string x.n, .int .i64 x.e], .agg #[.bool y.neg, .string y.n, .int .i64 y.e]] w fun en w' => en = .returned (qaf (qdG x y)) ∧ Kept w w' := by
 have NEG := qh (fun W => qhj y W hy)
 have ADD := qh (fun W => qdX x (negS y) W hx (qfi hy))
 unfold qdG
 generalize qaS x (negS y) = R at *
 generalize negS y = q at *
 obtain ⟨xn, xs, xe⟩ := x
 obtain ⟨yn, ys, ye⟩ := y
 simp only at NEG ADD ⊢
 clear hx hy
 go_enter func175, ntmps175
 go_upto_region 1 with fail
 obtain ⟨b, w1, hw, hb, B0, B1, B2, K1, HB⟩ := qct w (LC0 xn xs xe) 24 (LC0 yn ys ye) 24 (LC0 false ⟨#[]⟩ 0) 24
 rw [← hw, ← hb]; clear hw hb
 obtain ⟨c0, c1, c2⟩ := B0.out.c3
 obtain ⟨d0, d1, d2⟩ := B1.out.c3
 have SK : Hid (∀ W, Kept w1 W → (W.cell? ⟨b, 0, none⟩ = some (.bool xn) ∧ W.cell? ⟨b, 1, none⟩ = some (.string xs) ∧ W.cell? ⟨b, 2, none⟩ = some (.int .i64 xe)) ∧ W.cell? ⟨b + 1, 0, none⟩ = some (.bool yn) ∧ W.cell? ⟨b + 1, 1, none⟩ = some (.string ys) ∧ W.cell? ⟨b + 1, 2, none⟩ = some (.int .i64 ye)) := fun W h => ⟨(B0.out.kept h).c3, (B1.out.kept h).c3⟩
 go_wp2_with fail
 have hS0 := SK.out _ (Below.refl _ w1).drew
 refine qab (fun W => (W.cell? ⟨b, 0, none⟩ = some (.bool xn) ∧ W.cell? ⟨b, 1, none⟩ = some (.string xs) ∧ W.cell? ⟨b, 2, none⟩ = some (.int .i64 xe)) ∧ W.cell? ⟨b + 1, 0, none⟩ = some (.bool yn) ∧ W.cell? ⟨b + 1, 1, none⟩ = some (.string ys) ∧ W.cell? ⟨b + 1, 2, none⟩ = some (.int .i64 ye)) [6,7] (by kernel_rfl) ?_ (fun hHeld => ?_)
 ·assumption
 refine wS 0 6 ?_
 refine wS 1 7 ?_
 refine oS 2 fun K hK => ?_
 go_simp
 (refine (NEG.out _).mono ?_; rintro e w4 ⟨rfl, hk4⟩; have K4 := qh (show Kept w1 w4 from (Below.refl _ w1).drew.trans (hk4.mono (Nat.le_refl _))); have hS4 := SK.out _ K4.out)
 refine hK.out _ _ ?_ (fun hHeld => ?_)
 ·assumption
 clear hK K
 try simp only [Act.put, tdy]
 refine oS 3 fun K hK => ?_
 go_simp
 (refine (ADD.out _).mono ?_; rintro e w5 ⟨rfl, hk5⟩; have K5 := qh (K4.out.trans' hk5); have hS5 := SK.out _ K5.out)
 refine hK.out _ _ ?_ (fun hHeld => ?_)
 ·assumption
 clear hK K
 try simp only [Act.put, tdy]
 refine wS 4 10 ?_
 refine wS 5 11 ?_
 obtain ⟨e0, e1, e2⟩ := (B2.out.kept K5.out).c3
 obtain ⟨f0, f1, f2⟩ := (B2.out.kept K5.out).f3
 refine eS 6 fun K hK => ?_
 go_simp
 refine hK.out _ _ ?_
 clear hK K
 try simp only [Act.put, tdy]
 refine eS 7 fun K hK => ?_
 go_simp
 refine hK.out _ _ ?_
 clear hK K
 try simp only [Act.put, tdy]
 refine dS ?_ _
 go_wp2_with fail
 exact bodyPost_ret (v := qaf R) (by simp [results, results175, go_sem, e0, e1, e2, qaf]) rfl ⟨rfl, (K1.out.trans' K5.out).qaL (by have := HB.out; omega) _ _ _⟩
theorem qfb (x y : DyD) (w : World) (hx : qad x = true) (hy : qad y = true) :
  Calls prog 127 #[.agg #[.bool x.neg, .string x.n, .int .i64 x.e], .agg #[.bool y.neg, .string y.n, .int .i64 y.e]] w fun en w' => en = .returned (qaf (mulS x y)) ∧ Kept w w' := by
 by_cases h1 : x.num = 0
 ·have HA := qh (show mulS x y = (zD, 0) by unfold mulS; rw [h1, Int.zero_mul, qcR])
  obtain rfl := (qag hx).2.1 h1
  obtain ⟨yn, ys, ye⟩ := y
  show Calls prog 127 #[.agg #[.bool false, .string ⟨#[]⟩, .int .i64 0], .agg #[.bool yn, .string ys, .int .i64 ye]] w _
  clear h1 hx hy
  go_enter func127, ntmps127
  go_upto_region 1 with fail
  obtain ⟨b, w1, hw, hb, B0, B1, B2, K1, HB⟩ := qct w (LC0 false ⟨#[]⟩ 0) 24 (LC0 yn ys ye) 24 (LC0 false ⟨#[]⟩ 0) 24
  rw [← hw, ← hb]; clear hw hb
  obtain ⟨c0, c1, c2⟩ := B0.out.c3
  obtain ⟨d0, d1, d2⟩ := B1.out.c3
  obtain ⟨e0, e1, e2⟩ := B2.out.c3
  obtain ⟨f0, f1, f2⟩ := B2.out.f3
  go_wp2_with fail
  exact bodyPost_ret (v := qaf (zD, 0)) (by simp [results, results127, go_sem, e0, e1, e2, qaf, zD]) rfl ⟨by rw [HA.out], K1.out.qaL (by have := HB.out; omega) _ _ _⟩
 ·have hxne := qe0 (qcG hx h1)
  by_cases h2 : y.num = 0
  ·have HA := qh (show mulS x y = (zD, 0) by unfold mulS; rw [h2, Int.mul_zero, qcR])
   obtain rfl := (qag hy).2.1 h2
   obtain ⟨xn, xs, xe⟩ := x
   show Calls prog 127 #[.agg #[.bool xn, .string xs, .int .i64 xe], .agg #[.bool false, .string ⟨#[]⟩, .int .i64 0]] w _
   obtain ⟨hz, hz1⟩ := hxne
   simp only at hz hz1
   clear h1 h2 hx hy
   go_enter func127, ntmps127
   go_upto_region 1 with fail
   obtain ⟨b, w1, hw, hb, B0, B1, B2, K1, HB⟩ := qct w (LC0 xn xs xe) 24 (LC0 false ⟨#[]⟩ 0) 24 (LC0 false ⟨#[]⟩ 0) 24
   rw [← hw, ← hb]; clear hw hb
   obtain ⟨c0, c1, c2⟩ := B0.out.c3
   obtain ⟨d0, d1, d2⟩ := B1.out.c3
   obtain ⟨e0, e1, e2⟩ := B2.out.c3
   obtain ⟨f0, f1, f2⟩ := B2.out.f3
   go_wp2_with fail
   exact bodyPost_ret (v := qaf (zD, 0)) (by simp [results, results127, go_sem, e0, e1, e2, qaf, zD]) rfl ⟨by rw [HA.out], K1.out.qaL (by have := HB.out; omega) _ _ _⟩
  ·have hyne := qe0 (qcG hy h2)
   have hxe := (qag hx).2.2.2
   have hye := (qag hy).2.2.2
   have OX := qh (fun W => qlA hx W)
   have OY := qh (fun W => qlA hy W)
   have a1 := qcp hx
   have a2 := qcp hy
   have FIT : Hid (∀ W u j, qbn W u (x.num.natAbs * y.num.natAbs) j → j ≤ 100000 → Calls prog 135 #[.bool (x.neg != y.neg), u, .int .i64 (x.e + y.e)] W fun en w' => en = .returned (qaf (mulS x y)) ∧ Kept W w') := fun W u j h hj => by
    refine qk5 h hj _ _ _ (Int.natAbs_mul _ _) ?_ (by omega)
    intro _
    rw [a1, a2]
    rcases Int.lt_trichotomy x.num 0 with q1 | q1 | q1 <;> rcases Int.lt_trichotomy y.num 0 with q2 | q2 | q2
    ·rw [decide_eq_true q1, decide_eq_true q2, decide_eq_false (by have := Int.mul_pos_of_neg_of_neg q1 q2; omega)]; rfl
    ·exact absurd q2 h2
    ·rw [decide_eq_true q1, decide_eq_false (by omega), decide_eq_true (Int.mul_neg_of_neg_of_pos q1 q2)]; rfl
    ·exact absurd q1 h1
    ·exact absurd q1 h1
    ·exact absurd q1 h1
    ·rw [decide_eq_false (by omega), decide_eq_true q2, decide_eq_true (Int.mul_neg_of_pos_of_neg q1 q2)]; rfl
    ·exact absurd q2 h2
    ·rw [decide_eq_false (by omega), decide_eq_false (by omega), decide_eq_false (by have := Int.mul_pos q1 q2; omega)]; rfl
   generalize mulS x y = R at *
   obtain ⟨xn, xs, xe⟩ := x
   obtain ⟨yn, ys, ye⟩ := y
   simp only at hxne hyne OX OY FIT hxe hye ⊢
   generalize (DyD.mk xn xs xe).num = X at *
   generalize (DyD.mk yn ys ye).num = Y at *
   obtain ⟨hz, hz1⟩ := hxne
   obtain ⟨hz2, hz3⟩ := hyne
   have ew : IntKind.i64.wrap (xe + ye) = xe + ye := IntWalk.i64_in _ (by omega)
   clear h1 h2 hx hy a1 a2 hxe hye
   go_enter func127, ntmps127
   go_upto_region 1 with fail
   obtain ⟨b, w1, hw, hb, B0, B1, B2, K1, HB⟩ := qct w (LC0 xn xs xe) 24 (LC0 yn ys ye) 24 (LC0 false ⟨#[]⟩ 0) 24
   rw [← hw, ← hb]; clear hw hb
   obtain ⟨c0, c1, c2⟩ := B0.out.c3
   obtain ⟨d0, d1, d2⟩ := B1.out.c3
   have SK : Hid (∀ W, Kept w1 W → (W.cell? ⟨b, 0, none⟩ = some (.bool xn) ∧ W.cell? ⟨b, 1, none⟩ = some (.string xs) ∧ W.cell? ⟨b, 2, none⟩ = some (.int .i64 xe)) ∧ W.cell? ⟨b + 1, 0, none⟩ = some (.bool yn) ∧ W.cell? ⟨b + 1, 1, none⟩ = some (.string ys) ∧ W.cell? ⟨b + 1, 2, none⟩ = some (.int .i64 ye)) := fun W h => ⟨(B0.out.kept h).c3, (B1.out.kept h).c3⟩
   go_upto_region 3 with fail
   have hS0 := SK.out _ (Below.refl _ w1).drew
   refine qab (fun W => (W.cell? ⟨b, 0, none⟩ = some (.bool xn) ∧ W.cell? ⟨b, 1, none⟩ = some (.string xs) ∧ W.cell? ⟨b, 2, none⟩ = some (.int .i64 xe)) ∧ W.cell? ⟨b + 1, 0, none⟩ = some (.bool yn) ∧ W.cell? ⟨b + 1, 1, none⟩ = some (.string ys) ∧ W.cell? ⟨b + 1, 2, none⟩ = some (.int .i64 ye)) [20,21] (by kernel_rfl) ?_ (fun hHeld => ?_)
   ·assumption
   refine wS 0 15 ?_
   refine wS 1 16 ?_
   refine wS 2 17 ?_
   refine wS 3 18 ?_
   refine wS 4 19 ?_
   refine wS 5 20 ?_
   refine wS 6 21 ?_
   refine wS 8 23 ?_
   refine wS 9 24 ?_
   refine wS 12 27 ?_
   refine wS 13 28 ?_
   refine wS 14 29 ?_
   refine wS 15 30 ?_
   refine wS 16 31 ?_
   refine oS 7 fun K hK => ?_
   go_simp
   (refine (OX.out _).mono ?_; rintro e w3 ⟨v3, rfl, hv3, hk3⟩; have K3 := qh (show Kept w1 w3 from (Below.refl _ w1).drew.trans (hk3.mono (Nat.le_refl _))); have hS3 := SK.out _ K3.out; have V3 := qh hv3; clear hv3 hk3)
   refine hK.out _ _ ?_ (fun hHeld => ?_)
   ·assumption
   clear hK K
   try simp only [Act.put, tdy]
   refine oS 10 fun K hK => ?_
   go_simp
   (refine (OY.out _).mono ?_; rintro e w4 ⟨v4, rfl, hv4, hk4⟩; have K4 := qh (K3.out.trans' hk4); have hS4 := SK.out _ K4.out; have VX := qh (V3.out.kept hk4); have VY := qh hv4; clear hv4 hk4)
   refine hK.out _ _ ?_ (fun hHeld => ?_)
   ·assumption
   clear hK K
   try simp only [Act.put, tdy]
   refine oS 11 fun K hK => ?_
   go_simp
   (refine (qov VX.out VY.out (by omega) (by omega)).mono ?_; rintro e w5 ⟨u, rfl, hu, hk5⟩; have K5 := qh (K4.out.trans' hk5); have hS5 := SK.out _ K5.out; have HU := qh hu; clear hu hk5)
   refine hK.out _ _ ?_ (fun hHeld => ?_)
   ·assumption
   clear hK K
   try simp only [Act.put, tdy]
   refine oS 17 fun K hK => ?_
   go_simp
   (refine (FIT.out _ u _ HU.out (by omega)).mono ?_; rintro e w6 ⟨rfl, hk6⟩; have K6 := qh (K5.out.trans' hk6); have hS6 := SK.out _ K6.out; clear hk6)
   refine hK.out _ _ ?_ (fun hHeld => ?_)
   ·assumption
   clear hK K
   try simp only [Act.put, tdy]
   refine wS 18 33 ?_
   refine wS 19 34 ?_
   obtain ⟨e0, e1, e2⟩ := (B2.out.kept K6.out).c3
   obtain ⟨f0, f1, f2⟩ := (B2.out.kept K6.out).f3
   refine eS 20 fun K hK => ?_
   go_simp
   refine hK.out _ _ ?_
   clear hK K
   try simp only [Act.put, tdy]
   refine eS 21 fun K hK => ?_
   go_simp
   refine hK.out _ _ ?_
   clear hK K
   try simp only [Act.put, tdy]
   refine dS ?_ _
   go_wp2_with fail
   exact bodyPost_ret (v := qaf R) (by simp [results, results127, go_sem, e0, e1, e2, qaf]) rfl ⟨rfl, (K1.out.trans' K6.out).qaL (by have := HB.out; omega) _ _ _⟩
end
theorem qmQ {a b : Int} (h : a.sign = b.sign) (h0 : a ≠ 0) : qdA a b = a.sign * qbD a.natAbs b.natAbs := by
 rcases Int.lt_trichotomy a 0 with h1 | h1 | h1
 ·have h2 : b < 0 := by rw [Int.sign_eq_neg_one_of_neg h1] at h; exact Int.sign_eq_neg_one_iff_neg.1 h.symm
  rw [Int.sign_eq_neg_one_of_neg h1]
  rcases Int.lt_trichotomy a b with h3 | h3 | h3
  ·rw [qb5 h3, qdi (by omega)]; rfl
  ·subst h3; rw [qfV, qd7]; rfl
  ·rw [qcd h3, qcv (by omega)]; rfl
 ·exact absurd h1 h0
 ·have h2 : 0 < b := by rw [Int.sign_eq_one_of_pos h1] at h; exact Int.sign_eq_one_iff_pos.1 h.symm
  rw [Int.sign_eq_one_of_pos h1]
  rcases Int.lt_trichotomy a b with h3 | h3 | h3
  ·rw [qb5 h3, qcv (by omega)]; rfl
  ·subst h3; rw [qfV, qd7]; rfl
  ·rw [qcd h3, qdi (by omega)]; rfl
theorem qnP {x y : DyD} (h : x.num.sign = y.num.sign) (h0 : x.num ≠ 0) : qbx x y = x.num.sign * qbD (x.num.natAbs * 2 ^ (x.e - min x.e y.e).toNat) (y.num.natAbs * 2 ^ (y.e - min x.e y.e).toNat) := by
 unfold qbx
 rw [qmQ (by rw [qdo, qdo, h]) (Int.mul_ne_zero h0 (Int.ne_of_gt (Int.pow_pos (by omega)))), qdo, qc9, qc9]
set_option maxRecDepth 100000 in
set_option maxHeartbeats 3200000 in
theorem qcZ (x y : DyD) (w : World) (hx : qad x = true) (hy : qad y = true) :
  Calls prog 81 #[.agg #[.bool x.neg, .string x.n, .int .i64 x.e], .agg #[.bool y.neg, .string y.n, .int .i64 y.e]] w fun en w' => en = .returned (.int .i64 (qbx x y)) ∧ Kept w w' := by
 have SX := qh (fun W => qh1 x W hx)
 have SY := qh (fun W => qh1 y W hy)
 by_cases h1 : x.num.sign ≠ y.num.sign ∨ x.num.sign = 0
 ·rw [qhr h1]
  obtain ⟨xn, xs, xe⟩ := x
  obtain ⟨yn, ys, ye⟩ := y
  simp only at SX SY ⊢
  obtain ⟨sg, hsg⟩ : ∃ s, s = (DyD.mk xn xs xe).num.sign := ⟨_, rfl⟩
  obtain ⟨sh, hsh⟩ : ∃ s, s = (DyD.mk yn ys ye).num.sign := ⟨_, rfl⟩
  rw [← hsg] at SX h1 ⊢
  rw [← hsh] at SY h1 ⊢
  have r1 : -1 ≤ sg ∧ sg ≤ 1 := by rw [hsg]; have := Int.sign_trichotomy (DyD.mk xn xs xe).num; omega
  have r2 : -1 ≤ sh ∧ sh ≤ 1 := by rw [hsh]; have := Int.sign_trichotomy (DyD.mk yn ys ye).num; omega
  clear hsg hsh hx hy
  have H1 := qh h1
  clear h1
  rcases Int.lt_trichotomy sg sh with h3 | h3 | h3
  ·have HA := qh (show (sg - sh).sign = -1 from Int.sign_eq_neg_one_of_neg (by omega))
   have h4 : ¬ sg = sh := by omega
   go_enter func81, ntmps81
   go_upto_region 1 with fail
   obtain ⟨b, w1, hw, hb, B0, B1, K1, HB⟩ := qa7 w (LC0 xn xs xe) 24 (LC0 yn ys ye) 24
   rw [← hw, ← hb]; clear hw hb
   obtain ⟨c0, c1, c2⟩ := B0.out.c3
   obtain ⟨d0, d1, d2⟩ := B1.out.c3
   have SK : Hid (∀ W, Kept w1 W → (W.cell? ⟨b, 0, none⟩ = some (.bool xn) ∧ W.cell? ⟨b, 1, none⟩ = some (.string xs) ∧ W.cell? ⟨b, 2, none⟩ = some (.int .i64 xe)) ∧ W.cell? ⟨b + 1, 0, none⟩ = some (.bool yn) ∧ W.cell? ⟨b + 1, 1, none⟩ = some (.string ys) ∧ W.cell? ⟨b + 1, 2, none⟩ = some (.int .i64 ye)) := fun W h => ⟨(B0.out.kept h).c3, (B1.out.kept h).c3⟩
   have hS0 := SK.out _ (Below.refl _ w1).drew
   refine qab (fun W => (W.cell? ⟨b, 0, none⟩ = some (.bool xn) ∧ W.cell? ⟨b, 1, none⟩ = some (.string xs) ∧ W.cell? ⟨b, 2, none⟩ = some (.int .i64 xe)) ∧ W.cell? ⟨b + 1, 0, none⟩ = some (.bool yn) ∧ W.cell? ⟨b + 1, 1, none⟩ = some (.string ys) ∧ W.cell? ⟨b + 1, 2, none⟩ = some (.int .i64 ye)) [4,5] (by kernel_rfl) ?_ (fun hHeld => ?_)
   ·assumption
   refine wS 0 13 ?_
   refine wS 2 15 ?_
   refine oS 1 fun K hK => ?_
   go_simp
   (refine (SX.out _).mono ?_; rintro e w3 ⟨rfl, hk3⟩; have K3 := qh (show Kept w1 w3 from (Below.refl _ w1).drew.trans (hk3.mono (Nat.le_refl _))); have hS3 := SK.out _ K3.out; clear hk3)
   refine hK.out _ _ ?_ (fun hHeld => ?_)
   ·assumption
   clear hK K
   try simp only [Act.put, tdy]
   refine oS 3 fun K hK => ?_
   go_simp
   (refine (SY.out _).mono ?_; rintro e w4 ⟨rfl, hk4⟩; have K4 := qh (K3.out.trans' hk4); have hS4 := SK.out _ K4.out; clear hk4)
   refine hK.out _ _ ?_ (fun hHeld => ?_)
   ·assumption
   clear hK K
   try simp only [Act.put, tdy]
   refine eS 4 fun K hK => ?_
   go_simp
   refine hK.out _ _ ?_
   clear hK K
   try simp only [Act.put, tdy]
   refine eS 5 fun K hK => ?_
   go_simp
   refine hK.out _ _ ?_
   clear hK K
   try simp only [Act.put, tdy]
   refine dS ?_ _
   clear c0 c1 c2 d0 d1 d2
   obtain ⟨⟨c0, c1, c2⟩, d0, d1, d2⟩ := SK.out _ K4.out
   go_wp2_with fail
   go_ret
   exact ⟨qaT HA.out.symm, K1.out.trans' K4.out⟩
  ·subst h3
   have h5 : sg = 0 := by rcases H1.out with h | h; exact absurd rfl h; exact h
   subst h5
   go_enter func81, ntmps81
   go_upto_region 1 with fail
   obtain ⟨b, w1, hw, hb, B0, B1, K1, HB⟩ := qa7 w (LC0 xn xs xe) 24 (LC0 yn ys ye) 24
   rw [← hw, ← hb]; clear hw hb
   obtain ⟨c0, c1, c2⟩ := B0.out.c3
   obtain ⟨d0, d1, d2⟩ := B1.out.c3
   have SK : Hid (∀ W, Kept w1 W → (W.cell? ⟨b, 0, none⟩ = some (.bool xn) ∧ W.cell? ⟨b, 1, none⟩ = some (.string xs) ∧ W.cell? ⟨b, 2, none⟩ = some (.int .i64 xe)) ∧ W.cell? ⟨b + 1, 0, none⟩ = some (.bool yn) ∧ W.cell? ⟨b + 1, 1, none⟩ = some (.string ys) ∧ W.cell? ⟨b + 1, 2, none⟩ = some (.int .i64 ye)) := fun W h => ⟨(B0.out.kept h).c3, (B1.out.kept h).c3⟩
   have hS0 := SK.out _ (Below.refl _ w1).drew
   refine qab (fun W => (W.cell? ⟨b, 0, none⟩ = some (.bool xn) ∧ W.cell? ⟨b, 1, none⟩ = some (.string xs) ∧ W.cell? ⟨b, 2, none⟩ = some (.int .i64 xe)) ∧ W.cell? ⟨b + 1, 0, none⟩ = some (.bool yn) ∧ W.cell? ⟨b + 1, 1, none⟩ = some (.string ys) ∧ W.cell? ⟨b + 1, 2, none⟩ = some (.int .i64 ye)) [4,5] (by kernel_rfl) ?_ (fun hHeld => ?_)
   ·assumption
   refine wS 0 13 ?_
   refine wS 2 15 ?_
   refine oS 1 fun K hK => ?_
   go_simp
   (refine (SX.out _).mono ?_; rintro e w3 ⟨rfl, hk3⟩; have K3 := qh (show Kept w1 w3 from (Below.refl _ w1).drew.trans (hk3.mono (Nat.le_refl _))); have hS3 := SK.out _ K3.out; clear hk3)
   refine hK.out _ _ ?_ (fun hHeld => ?_)
   ·assumption
   clear hK K
   try simp only [Act.put, tdy]
   refine oS 3 fun K hK => ?_
   go_simp
   (refine (SY.out _).mono ?_; rintro e w4 ⟨rfl, hk4⟩; have K4 := qh (K3.out.trans' hk4); have hS4 := SK.out _ K4.out; clear hk4)
   refine hK.out _ _ ?_ (fun hHeld => ?_)
   ·assumption
   clear hK K
   try simp only [Act.put, tdy]
   refine eS 4 fun K hK => ?_
   go_simp
   refine hK.out _ _ ?_
   clear hK K
   try simp only [Act.put, tdy]
   refine eS 5 fun K hK => ?_
   go_simp
   refine hK.out _ _ ?_
   clear hK K
   try simp only [Act.put, tdy]
   refine dS ?_ _
   clear c0 c1 c2 d0 d1 d2
   obtain ⟨⟨c0, c1, c2⟩, d0, d1, d2⟩ := SK.out _ K4.out
   go_wp2_with fail
   go_ret
   exact ⟨qaT (by simp), K1.out.trans' K4.out⟩
  ·have HA := qh (show (sg - sh).sign = 1 from Int.sign_eq_one_of_pos (by omega))
   have h4 : ¬ sg = sh := by omega
   have h5 : ¬ sg < sh := by omega
   go_enter func81, ntmps81
   go_upto_region 1 with fail
   obtain ⟨b, w1, hw, hb, B0, B1, K1, HB⟩ := qa7 w (LC0 xn xs xe) 24 (LC0 yn ys ye) 24
   rw [← hw, ← hb]; clear hw hb
   obtain ⟨c0, c1, c2⟩ := B0.out.c3
   obtain ⟨d0, d1, d2⟩ := B1.out.c3
   have SK : Hid (∀ W, Kept w1 W → (W.cell? ⟨b, 0, none⟩ = some (.bool xn) ∧ W.cell? ⟨b, 1, none⟩ = some (.string xs) ∧ W.cell? ⟨b, 2, none⟩ = some (.int .i64 xe)) ∧ W.cell? ⟨b + 1, 0, none⟩ = some (.bool yn) ∧ W.cell? ⟨b + 1, 1, none⟩ = some (.string ys) ∧ W.cell? ⟨b + 1, 2, none⟩ = some (.int .i64 ye)) := fun W h => ⟨(B0.out.kept h).c3, (B1.out.kept h).c3⟩
   have hS0 := SK.out _ (Below.refl _ w1).drew
   refine qab (fun W => (W.cell? ⟨b, 0, none⟩ = some (.bool xn) ∧ W.cell? ⟨b, 1, none⟩ = some (.string xs) ∧ W.cell? ⟨b, 2, none⟩ = some (.int .i64 xe)) ∧ W.cell? ⟨b + 1, 0, none⟩ = some (.bool yn) ∧ W.cell? ⟨b + 1, 1, none⟩ = some (.string ys) ∧ W.cell? ⟨b + 1, 2, none⟩ = some (.int .i64 ye)) [4,5] (by kernel_rfl) ?_ (fun hHeld => ?_)
   ·assumption
   refine wS 0 13 ?_
   refine wS 2 15 ?_
   refine oS 1 fun K hK => ?_
   go_simp
   (refine (SX.out _).mono ?_; rintro e w3 ⟨rfl, hk3⟩; have K3 := qh (show Kept w1 w3 from (Below.refl _ w1).drew.trans (hk3.mono (Nat.le_refl _))); have hS3 := SK.out _ K3.out; clear hk3)
   refine hK.out _ _ ?_ (fun hHeld => ?_)
   ·assumption
   clear hK K
   try simp only [Act.put, tdy]
   refine oS 3 fun K hK => ?_
   go_simp
   (refine (SY.out _).mono ?_; rintro e w4 ⟨rfl, hk4⟩; have K4 := qh (K3.out.trans' hk4); have hS4 := SK.out _ K4.out; clear hk4)
   refine hK.out _ _ ?_ (fun hHeld => ?_)
   ·assumption
   clear hK K
   try simp only [Act.put, tdy]
   refine eS 4 fun K hK => ?_
   go_simp
   refine hK.out _ _ ?_
   clear hK K
   try simp only [Act.put, tdy]
   refine eS 5 fun K hK => ?_
   go_simp
   refine hK.out _ _ ?_
   clear hK K
   try simp only [Act.put, tdy]
   refine dS ?_ _
   clear c0 c1 c2 d0 d1 d2
   obtain ⟨⟨c0, c1, c2⟩, d0, d1, d2⟩ := SK.out _ K4.out
   go_wp2_with fail
   go_ret
   exact ⟨qaT HA.out.symm, K1.out.trans' K4.out⟩
 ·have h2 : x.num.sign = y.num.sign := by
   rcases Classical.em (x.num.sign = y.num.sign) with h | h
   ·exact h
   ·exact absurd (.inl h) h1
  have h3 : x.num.sign ≠ 0 := fun h => h1 (.inr h)
  have hx0 : x.num ≠ 0 := fun h => h3 (by rw [h]; rfl)
  have hy0 : y.num ≠ 0 := fun h => h3 (by rw [h2, h]; rfl)
  obtain ⟨p, hp⟩ := qdh x.num.natAbs
  obtain ⟨q, hq⟩ := qdh y.num.natAbs
  have TX := qh (fun W => qeB x p W hx hx0 hp)
  have TY := qh (fun W => qeB y q W hy hy0 hq)
  have hp9 : p ≤ 8 * 16384 := qcU hp (qag hx).1
  have hq9 : q ≤ 8 * 16384 := qcU hq (qag hy).1
  have hxe := (qag hx).2.2.2
  have hye := (qag hy).2.2.2
  have OX := qh (fun W => qlA hx W)
  have OY := qh (fun W => qlA hy W)
  have r1 : x.num.sign = -1 ∨ x.num.sign = 1 := by have := Int.sign_trichotomy x.num; omega
  by_cases h4 : (p : Int) + x.e = q + y.e
  ·rw [qnP h2 hx0]
   rw [← h2] at SY
   obtain ⟨k, hk⟩ : ∃ k, k = (x.e - min x.e y.e).toNat := ⟨_, rfl⟩
   obtain ⟨j, hj⟩ : ∃ j, j = (y.e - min x.e y.e).toNat := ⟨_, rfl⟩
   rw [← hk, ← hj]
   obtain ⟨xn, xs, xe⟩ := x
   obtain ⟨yn, ys, ye⟩ := y
   simp only at SX SY TX TY hxe hye OX OY r1 h4 hk hj h3 ⊢
   generalize (DyD.mk xn xs xe).num = X at *
   generalize (DyD.mk yn ys ye).num = Y at *
   generalize X.sign = sg at *
   obtain ⟨n, hn⟩ : ∃ n, n = (p : Int) - 1 + xe := ⟨_, rfl⟩
   rw [← hn] at TX
   rw [← show n = (q : Int) - 1 + ye by omega] at TY
   have i0 : ¬ sg = 0 := h3
   have i00 : (sg == 0) = false := by simpa using h3
   by_cases hlt : ye < xe
   ·have hj0 : j = 0 := by omega
    subst hj0
    have hkI : IntKind.i64.wrap (xe - ye) = (k : Int) := by rw [IntWalk.i64_in _ (by omega)]; omega
    have hkb : k ≤ 200000 := by omega
    have LX : Hid (∀ W v, qbn W v X.natAbs 16384 → Calls prog 125 #[v, .int .i64 (k : Int)] W fun e w' => ∃ u, e = .returned u ∧ qbn w' u (X.natAbs * 2 ^ k) 100000 ∧ Kept W w') := fun W v h => (qe3 h (by omega) k (by omega)).mono fun e w' ⟨u, h1, ⟨A, c, l, q1, q2, q3, q4⟩, h3⟩ => ⟨u, h1, ⟨A, c, l, q1, q2, by omega, q4⟩, h3⟩
    have CMP : Hid (∀ W v v', qbn W v (X.natAbs * 2 ^ k) 100000 → qbn W v' Y.natAbs 16384 → Calls prog 126 #[v, v'] W fun e w' => e = .returned (.int .i64 (qbD (X.natAbs * 2 ^ k) (Y.natAbs * 2 ^ 0))) ∧ Kept W w') := fun W v v' h h' => by rw [Nat.pow_zero, Nat.mul_one]; exact qk7 h h' (by omega) (by omega)
    have hcb : qbD (X.natAbs * 2 ^ k) (Y.natAbs * 2 ^ 0) = -1 ∨ qbD (X.natAbs * 2 ^ k) (Y.natAbs * 2 ^ 0) = 0 ∨ qbD (X.natAbs * 2 ^ k) (Y.natAbs * 2 ^ 0) = 1 := by unfold qbD; split; exact .inl rfl; split; exact .inr (.inr rfl); exact .inr (.inl rfl)
    generalize qbD (X.natAbs * 2 ^ k) (Y.natAbs * 2 ^ 0) = cc at *
    have hw : IntKind.i64.wrap (sg * cc) = sg * cc := by rcases r1 with r | r <;> rcases hcb with h | h | h <;> rw [r, h] <;> rfl
    clear hk hj hn hx hy h1 h2 h3 hx0 hy0 hp hq h4 hcb
    go_enter func81, ntmps81
    go_upto_region 1 with fail
    obtain ⟨b, w1, hw, hb, B0, B1, K1, HB⟩ := qa7 w (LC0 xn xs xe) 24 (LC0 yn ys ye) 24
    rw [← hw, ← hb]; clear hw hb
    obtain ⟨c0, c1, c2⟩ := B0.out.c3
    obtain ⟨d0, d1, d2⟩ := B1.out.c3
    have SK : Hid (∀ W, Kept w1 W → (W.cell? ⟨b, 0, none⟩ = some (.bool xn) ∧ W.cell? ⟨b, 1, none⟩ = some (.string xs) ∧ W.cell? ⟨b, 2, none⟩ = some (.int .i64 xe)) ∧ W.cell? ⟨b + 1, 0, none⟩ = some (.bool yn) ∧ W.cell? ⟨b + 1, 1, none⟩ = some (.string ys) ∧ W.cell? ⟨b + 1, 2, none⟩ = some (.int .i64 ye)) := fun W h => ⟨(B0.out.kept h).c3, (B1.out.kept h).c3⟩
    have hS0 := SK.out _ (Below.refl _ w1).drew
    refine qab (fun W => (W.cell? ⟨b, 0, none⟩ = some (.bool xn) ∧ W.cell? ⟨b, 1, none⟩ = some (.string xs) ∧ W.cell? ⟨b, 2, none⟩ = some (.int .i64 xe)) ∧ W.cell? ⟨b + 1, 0, none⟩ = some (.bool yn) ∧ W.cell? ⟨b + 1, 1, none⟩ = some (.string ys) ∧ W.cell? ⟨b + 1, 2, none⟩ = some (.int .i64 ye)) [4,5] (by kernel_rfl) ?_ (fun hHeld => ?_)
    ·assumption
    refine wS 0 13 ?_
    refine wS 2 15 ?_
    refine oS 1 fun K hK => ?_
    go_simp
    (refine (SX.out _).mono ?_; rintro e w3 ⟨rfl, hk3⟩; have K3 := qh (show Kept w1 w3 from (Below.refl _ w1).drew.trans (hk3.mono (Nat.le_refl _))); have hS3 := SK.out _ K3.out; clear hk3)
    refine hK.out _ _ ?_ (fun hHeld => ?_)
    ·assumption
    clear hK K
    try simp only [Act.put, tdy]
    refine oS 3 fun K hK => ?_
    go_simp
    (refine (SY.out _).mono ?_; rintro e w4 ⟨rfl, hk4⟩; have K4 := qh (K3.out.trans' hk4); have hS4 := SK.out _ K4.out; clear hk4)
    refine hK.out _ _ ?_ (fun hHeld => ?_)
    ·assumption
    clear hK K
    try simp only [Act.put, tdy]
    refine eS 4 fun K hK => ?_
    go_simp
    refine hK.out _ _ ?_
    clear hK K
    try simp only [Act.put, tdy]
    refine eS 5 fun K hK => ?_
    go_simp
    refine hK.out _ _ ?_
    clear hK K
    try simp only [Act.put, tdy]
    refine dS ?_ _
    clear c0 c1 c2 d0 d1 d2
    obtain ⟨⟨c0, c1, c2⟩, d0, d1, d2⟩ := SK.out _ K4.out
    go_upto_region 14 with (first
     | (go_at_call 123; (with_reducible refine (TX.out _).mono ?_); rintro e w5 ⟨rfl, hk5⟩; have K5 := qh (K4.out.trans' hk5); obtain ⟨⟨c0, c1, c2⟩, d0, d1, d2⟩ := SK.out _ K5.out; clear hk5)
     | (go_at_call 123; (with_reducible refine (TY.out _).mono ?_); rintro e w6 ⟨rfl, hk6⟩; have K6 := qh (K5.out.trans' hk6); clear hk6))
    have hS6 := SK.out _ K6.out.drew'
    refine qab (fun W => (W.cell? ⟨b, 0, none⟩ = some (.bool xn) ∧ W.cell? ⟨b, 1, none⟩ = some (.string xs) ∧ W.cell? ⟨b, 2, none⟩ = some (.int .i64 xe)) ∧ W.cell? ⟨b + 1, 0, none⟩ = some (.bool yn) ∧ W.cell? ⟨b + 1, 1, none⟩ = some (.string ys) ∧ W.cell? ⟨b + 1, 2, none⟩ = some (.int .i64 ye)) [6,7] (by kernel_rfl) ?_ (fun hHeld => ?_)
    ·assumption
    refine wS 0 49 ?_
    refine wS 1 50 ?_
    refine wS 3 52 ?_
    refine wS 4 53 ?_
    refine oS 2 fun K hK => ?_
    go_simp
    (refine (OX.out _).mono ?_; rintro e w7 ⟨v7, rfl, hv7, hk7⟩; have K7 := qh (K6.out.drew'.trans' hk7); have hS7 := SK.out _ K7.out; have V7 := qh hv7; clear hv7 hk7)
    refine hK.out _ _ ?_ (fun hHeld => ?_)
    ·assumption
    clear hK K
    try simp only [Act.put, tdy]
    refine oS 5 fun K hK => ?_
    go_simp
    (refine (OY.out _).mono ?_; rintro e w8 ⟨v8, rfl, hv8, hk8⟩; have K8 := qh (K7.out.trans' hk8); have hS8 := SK.out _ K8.out; have VX := qh (V7.out.kept hk8); have VY := qh hv8; clear hv8 hk8)
    refine hK.out _ _ ?_ (fun hHeld => ?_)
    ·assumption
    clear hK K
    try simp only [Act.put, tdy]
    refine eS 6 fun K hK => ?_
    go_simp
    refine hK.out _ _ ?_
    clear hK K
    try simp only [Act.put, tdy]
    refine eS 7 fun K hK => ?_
    go_simp
    refine hK.out _ _ ?_
    clear hK K
    try simp only [Act.put, tdy]
    refine dS ?_ _
    clear c0 c1 c2 d0 d1 d2
    obtain ⟨⟨c0, c1, c2⟩, d0, d1, d2⟩ := SK.out _ K8.out
    go_wp2_with (first
     | (go_at_call 125; (with_reducible refine (LX.out _ _ VX.out).mono ?_); rintro e w9 ⟨v9, rfl, hv9, hk9⟩; have K9 := qh (K8.out.trans' hk9); have V9 := qh hv9; have VY9 := qh (VY.out.kept hk9); clear hk9 hv9)
     | (go_at_call 126; (with_reducible refine (CMP.out _ _ _ V9.out VY9.out).mono ?_); rintro e w10 ⟨rfl, hk10⟩; have K10 := qh (K9.out.trans' hk10); clear hk10))
    go_ret
    exact ⟨rfl, K1.out.trans' K10.out⟩
   ·have hk0 : k = 0 := by omega
    subst hk0
    have hkI : IntKind.i64.wrap (ye - xe) = (j : Int) := by rw [IntWalk.i64_in _ (by omega)]; omega
    have hkb : j ≤ 200000 := by omega
    have LY : Hid (∀ W v, qbn W v Y.natAbs 16384 → Calls prog 125 #[v, .int .i64 (j : Int)] W fun e w' => ∃ u, e = .returned u ∧ qbn w' u (Y.natAbs * 2 ^ j) 100000 ∧ Kept W w') := fun W v h => (qe3 h (by omega) j (by omega)).mono fun e w' ⟨u, h1, ⟨A, c, l, q1, q2, q3, q4⟩, h3⟩ => ⟨u, h1, ⟨A, c, l, q1, q2, by omega, q4⟩, h3⟩
    have CMP : Hid (∀ W v v', qbn W v X.natAbs 16384 → qbn W v' (Y.natAbs * 2 ^ j) 100000 → Calls prog 126 #[v, v'] W fun e w' => e = .returned (.int .i64 (qbD (X.natAbs * 2 ^ 0) (Y.natAbs * 2 ^ j))) ∧ Kept W w') := fun W v v' h h' => by rw [Nat.pow_zero, Nat.mul_one]; exact qk7 h h' (by omega) (by omega)
    have hcb : qbD (X.natAbs * 2 ^ 0) (Y.natAbs * 2 ^ j) = -1 ∨ qbD (X.natAbs * 2 ^ 0) (Y.natAbs * 2 ^ j) = 0 ∨ qbD (X.natAbs * 2 ^ 0) (Y.natAbs * 2 ^ j) = 1 := by unfold qbD; split; exact .inl rfl; split; exact .inr (.inr rfl); exact .inr (.inl rfl)
    generalize qbD (X.natAbs * 2 ^ 0) (Y.natAbs * 2 ^ j) = cc at *
    have hw : IntKind.i64.wrap (sg * cc) = sg * cc := by rcases r1 with r | r <;> rcases hcb with h | h | h <;> rw [r, h] <;> rfl
    clear hk hj hn hx hy h1 h2 h3 hx0 hy0 hp hq h4 hcb
    go_enter func81, ntmps81
    go_upto_region 1 with fail
    obtain ⟨b, w1, hw, hb, B0, B1, K1, HB⟩ := qa7 w (LC0 xn xs xe) 24 (LC0 yn ys ye) 24
    rw [← hw, ← hb]; clear hw hb
    obtain ⟨c0, c1, c2⟩ := B0.out.c3
    obtain ⟨d0, d1, d2⟩ := B1.out.c3
    have SK : Hid (∀ W, Kept w1 W → (W.cell? ⟨b, 0, none⟩ = some (.bool xn) ∧ W.cell? ⟨b, 1, none⟩ = some (.string xs) ∧ W.cell? ⟨b, 2, none⟩ = some (.int .i64 xe)) ∧ W.cell? ⟨b + 1, 0, none⟩ = some (.bool yn) ∧ W.cell? ⟨b + 1, 1, none⟩ = some (.string ys) ∧ W.cell? ⟨b + 1, 2, none⟩ = some (.int .i64 ye)) := fun W h => ⟨(B0.out.kept h).c3, (B1.out.kept h).c3⟩
    have hS0 := SK.out _ (Below.refl _ w1).drew
    refine qab (fun W => (W.cell? ⟨b, 0, none⟩ = some (.bool xn) ∧ W.cell? ⟨b, 1, none⟩ = some (.string xs) ∧ W.cell? ⟨b, 2, none⟩ = some (.int .i64 xe)) ∧ W.cell? ⟨b + 1, 0, none⟩ = some (.bool yn) ∧ W.cell? ⟨b + 1, 1, none⟩ = some (.string ys) ∧ W.cell? ⟨b + 1, 2, none⟩ = some (.int .i64 ye)) [4,5] (by kernel_rfl) ?_ (fun hHeld => ?_)
    ·assumption
    refine wS 0 13 ?_
    refine wS 2 15 ?_
    refine oS 1 fun K hK => ?_
    go_simp
    (refine (SX.out _).mono ?_; rintro e w3 ⟨rfl, hk3⟩; have K3 := qh (show Kept w1 w3 from (Below.refl _ w1).drew.trans (hk3.mono (Nat.le_refl _))); have hS3 := SK.out _ K3.out; clear hk3)
    refine hK.out _ _ ?_ (fun hHeld => ?_)
    ·assumption
    clear hK K
    try simp only [Act.put, tdy]
    refine oS 3 fun K hK => ?_
    go_simp
    (refine (SY.out _).mono ?_; rintro e w4 ⟨rfl, hk4⟩; have K4 := qh (K3.out.trans' hk4); have hS4 := SK.out _ K4.out; clear hk4)
    refine hK.out _ _ ?_ (fun hHeld => ?_)
    ·assumption
    clear hK K
    try simp only [Act.put, tdy]
    refine eS 4 fun K hK => ?_
    go_simp
    refine hK.out _ _ ?_
    clear hK K
    try simp only [Act.put, tdy]
    refine eS 5 fun K hK => ?_
    go_simp
    refine hK.out _ _ ?_
    clear hK K
    try simp only [Act.put, tdy]
    refine dS ?_ _
    clear c0 c1 c2 d0 d1 d2
    obtain ⟨⟨c0, c1, c2⟩, d0, d1, d2⟩ := SK.out _ K4.out
    go_upto_region 14 with (first
     | (go_at_call 123; (with_reducible refine (TX.out _).mono ?_); rintro e w5 ⟨rfl, hk5⟩; have K5 := qh (K4.out.trans' hk5); obtain ⟨⟨c0, c1, c2⟩, d0, d1, d2⟩ := SK.out _ K5.out; clear hk5)
     | (go_at_call 123; (with_reducible refine (TY.out _).mono ?_); rintro e w6 ⟨rfl, hk6⟩; have K6 := qh (K5.out.trans' hk6); clear hk6))
    have hS6 := SK.out _ K6.out.drew'
    refine qab (fun W => (W.cell? ⟨b, 0, none⟩ = some (.bool xn) ∧ W.cell? ⟨b, 1, none⟩ = some (.string xs) ∧ W.cell? ⟨b, 2, none⟩ = some (.int .i64 xe)) ∧ W.cell? ⟨b + 1, 0, none⟩ = some (.bool yn) ∧ W.cell? ⟨b + 1, 1, none⟩ = some (.string ys) ∧ W.cell? ⟨b + 1, 2, none⟩ = some (.int .i64 ye)) [6,7] (by kernel_rfl) ?_ (fun hHeld => ?_)
    ·assumption
    refine wS 0 49 ?_
    refine wS 1 50 ?_
    refine wS 3 52 ?_
    refine wS 4 53 ?_
    refine oS 2 fun K hK => ?_
    go_simp
    (refine (OX.out _).mono ?_; rintro e w7 ⟨v7, rfl, hv7, hk7⟩; have K7 := qh (K6.out.drew'.trans' hk7); have hS7 := SK.out _ K7.out; have V7 := qh hv7; clear hv7 hk7)
    refine hK.out _ _ ?_ (fun hHeld => ?_)
    ·assumption
    clear hK K
    try simp only [Act.put, tdy]
    refine oS 5 fun K hK => ?_
    go_simp
    (refine (OY.out _).mono ?_; rintro e w8 ⟨v8, rfl, hv8, hk8⟩; have K8 := qh (K7.out.trans' hk8); have hS8 := SK.out _ K8.out; have VX := qh (V7.out.kept hk8); have VY := qh hv8; clear hv8 hk8)
    refine hK.out _ _ ?_ (fun hHeld => ?_)
    ·assumption
    clear hK K
    try simp only [Act.put, tdy]
    refine eS 6 fun K hK => ?_
    go_simp
    refine hK.out _ _ ?_
    clear hK K
    try simp only [Act.put, tdy]
    refine eS 7 fun K hK => ?_
    go_simp
    refine hK.out _ _ ?_
    clear hK K
    try simp only [Act.put, tdy]
    refine dS ?_ _
    clear c0 c1 c2 d0 d1 d2
    obtain ⟨⟨c0, c1, c2⟩, d0, d1, d2⟩ := SK.out _ K8.out
    go_wp2_with (first
     | (go_at_call 125; (with_reducible refine (LY.out _ _ VY.out).mono ?_); rintro e w9 ⟨v9, rfl, hv9, hk9⟩; have K9 := qh (K8.out.trans' hk9); have V9 := qh hv9; have VX9 := qh (VX.out.kept hk9); clear hk9 hv9)
     | (go_at_call 126; (with_reducible refine (CMP.out _ _ _ VX9.out V9.out).mono ?_); rintro e w10 ⟨rfl, hk10⟩; have K10 := qh (K9.out.trans' hk10); clear hk10))
    go_ret
    exact ⟨rfl, K1.out.trans' K10.out⟩
  ·rw [qjA h2 hx0 hp hq h4]
   rw [← h2] at SY
   obtain ⟨xn, xs, xe⟩ := x
   obtain ⟨yn, ys, ye⟩ := y
   simp only at SX SY TX TY hxe hye r1 h4 h3 ⊢
   generalize (DyD.mk xn xs xe).num = X at *
   generalize (DyD.mk yn ys ye).num = Y at *
   generalize X.sign = sg at *
   obtain ⟨n, hn⟩ : ∃ n, n = (p : Int) - 1 + xe := ⟨_, rfl⟩
   obtain ⟨m, hm⟩ : ∃ m, m = (q : Int) - 1 + ye := ⟨_, rfl⟩
   rw [← hn] at TX
   rw [← hm] at TY
   rw [show ((p : Int) + xe - (q + ye)) = n - m by omega]
   have h5 : ¬ n = m := by omega
   have i0 : ¬ sg = 0 := h3
   have i00 : (sg == 0) = false := by simpa using h3
   clear hn hm hx hy h1 h2 h3 hx0 hy0 hp hq h4 OX OY hp9 hq9
   by_cases hlt : n < m
   ·have HA := qh (show (n - m).sign = -1 from Int.sign_eq_neg_one_of_neg (by omega))
    have hneg : IntKind.i64.wrap (-sg) = -sg := IntWalk.i64_in _ (by omega)
    go_enter func81, ntmps81
    go_upto_region 1 with fail
    obtain ⟨b, w1, hw, hb, B0, B1, K1, HB⟩ := qa7 w (LC0 xn xs xe) 24 (LC0 yn ys ye) 24
    rw [← hw, ← hb]; clear hw hb
    obtain ⟨c0, c1, c2⟩ := B0.out.c3
    obtain ⟨d0, d1, d2⟩ := B1.out.c3
    have SK : Hid (∀ W, Kept w1 W → (W.cell? ⟨b, 0, none⟩ = some (.bool xn) ∧ W.cell? ⟨b, 1, none⟩ = some (.string xs) ∧ W.cell? ⟨b, 2, none⟩ = some (.int .i64 xe)) ∧ W.cell? ⟨b + 1, 0, none⟩ = some (.bool yn) ∧ W.cell? ⟨b + 1, 1, none⟩ = some (.string ys) ∧ W.cell? ⟨b + 1, 2, none⟩ = some (.int .i64 ye)) := fun W h => ⟨(B0.out.kept h).c3, (B1.out.kept h).c3⟩
    have hS0 := SK.out _ (Below.refl _ w1).drew
    refine qab (fun W => (W.cell? ⟨b, 0, none⟩ = some (.bool xn) ∧ W.cell? ⟨b, 1, none⟩ = some (.string xs) ∧ W.cell? ⟨b, 2, none⟩ = some (.int .i64 xe)) ∧ W.cell? ⟨b + 1, 0, none⟩ = some (.bool yn) ∧ W.cell? ⟨b + 1, 1, none⟩ = some (.string ys) ∧ W.cell? ⟨b + 1, 2, none⟩ = some (.int .i64 ye)) [4,5] (by kernel_rfl) ?_ (fun hHeld => ?_)
    ·assumption
    refine wS 0 13 ?_
    refine wS 2 15 ?_
    refine oS 1 fun K hK => ?_
    go_simp
    (refine (SX.out _).mono ?_; rintro e w3 ⟨rfl, hk3⟩; have K3 := qh (show Kept w1 w3 from (Below.refl _ w1).drew.trans (hk3.mono (Nat.le_refl _))); have hS3 := SK.out _ K3.out; clear hk3)
    refine hK.out _ _ ?_ (fun hHeld => ?_)
    ·assumption
    clear hK K
    try simp only [Act.put, tdy]
    refine oS 3 fun K hK => ?_
    go_simp
    (refine (SY.out _).mono ?_; rintro e w4 ⟨rfl, hk4⟩; have K4 := qh (K3.out.trans' hk4); have hS4 := SK.out _ K4.out; clear hk4)
    refine hK.out _ _ ?_ (fun hHeld => ?_)
    ·assumption
    clear hK K
    try simp only [Act.put, tdy]
    refine eS 4 fun K hK => ?_
    go_simp
    refine hK.out _ _ ?_
    clear hK K
    try simp only [Act.put, tdy]
    refine eS 5 fun K hK => ?_
    go_simp
    refine hK.out _ _ ?_
    clear hK K
    try simp only [Act.put, tdy]
    refine dS ?_ _
    clear c0 c1 c2 d0 d1 d2
    obtain ⟨⟨c0, c1, c2⟩, d0, d1, d2⟩ := SK.out _ K4.out
    go_wp2_with (first
     | (go_at_call 123; (with_reducible refine (TX.out _).mono ?_); rintro e w5 ⟨rfl, hk5⟩; have K5 := qh (K4.out.trans' hk5); obtain ⟨⟨c0, c1, c2⟩, d0, d1, d2⟩ := SK.out _ K5.out; clear hk5)
     | (go_at_call 123; (with_reducible refine (TY.out _).mono ?_); rintro e w6 ⟨rfl, hk6⟩; have K6 := qh (K5.out.trans' hk6); clear hk6))
    go_ret
    exact ⟨qaT (by rw [HA.out]; omega), K1.out.trans' K6.out⟩
   ·have HA := qh (show (n - m).sign = 1 from Int.sign_eq_one_of_pos (by omega))
    go_enter func81, ntmps81
    go_upto_region 1 with fail
    obtain ⟨b, w1, hw, hb, B0, B1, K1, HB⟩ := qa7 w (LC0 xn xs xe) 24 (LC0 yn ys ye) 24
    rw [← hw, ← hb]; clear hw hb
    obtain ⟨c0, c1, c2⟩ := B0.out.c3
    obtain ⟨d0, d1, d2⟩ := B1.out.c3
    have SK : Hid (∀ W, Kept w1 W → (W.cell? ⟨b, 0, none⟩ = some (.bool xn) ∧ W.cell? ⟨b, 1, none⟩ = some (.string xs) ∧ W.cell? ⟨b, 2, none⟩ = some (.int .i64 xe)) ∧ W.cell? ⟨b + 1, 0, none⟩ = some (.bool yn) ∧ W.cell? ⟨b + 1, 1, none⟩ = some (.string ys) ∧ W.cell? ⟨b + 1, 2, none⟩ = some (.int .i64 ye)) := fun W h => ⟨(B0.out.kept h).c3, (B1.out.kept h).c3⟩
    have hS0 := SK.out _ (Below.refl _ w1).drew
    refine qab (fun W => (W.cell? ⟨b, 0, none⟩ = some (.bool xn) ∧ W.cell? ⟨b, 1, none⟩ = some (.string xs) ∧ W.cell? ⟨b, 2, none⟩ = some (.int .i64 xe)) ∧ W.cell? ⟨b + 1, 0, none⟩ = some (.bool yn) ∧ W.cell? ⟨b + 1, 1, none⟩ = some (.string ys) ∧ W.cell? ⟨b + 1, 2, none⟩ = some (.int .i64 ye)) [4,5] (by kernel_rfl) ?_ (fun hHeld => ?_)
    ·assumption
    refine wS 0 13 ?_
    refine wS 2 15 ?_
    refine oS 1 fun K hK => ?_
    go_simp
    (refine (SX.out _).mono ?_; rintro e w3 ⟨rfl, hk3⟩; have K3 := qh (show Kept w1 w3 from (Below.refl _ w1).drew.trans (hk3.mono (Nat.le_refl _))); have hS3 := SK.out _ K3.out; clear hk3)
    refine hK.out _ _ ?_ (fun hHeld => ?_)
    ·assumption
    clear hK K
    try simp only [Act.put, tdy]
    refine oS 3 fun K hK => ?_
    go_simp
    (refine (SY.out _).mono ?_; rintro e w4 ⟨rfl, hk4⟩; have K4 := qh (K3.out.trans' hk4); have hS4 := SK.out _ K4.out; clear hk4)
    refine hK.out _ _ ?_ (fun hHeld => ?_)
    ·assumption
    clear hK K
    try simp only [Act.put, tdy]
    refine eS 4 fun K hK => ?_
    go_simp
    refine hK.out _ _ ?_
    clear hK K
    try simp only [Act.put, tdy]
    refine eS 5 fun K hK => ?_
    go_simp
    refine hK.out _ _ ?_
    clear hK K
    try simp only [Act.put, tdy]
    refine dS ?_ _
    clear c0 c1 c2 d0 d1 d2
    obtain ⟨⟨c0, c1, c2⟩, d0, d1, d2⟩ := SK.out _ K4.out
    go_wp2_with (first
     | (go_at_call 123; (with_reducible refine (TX.out _).mono ?_); rintro e w5 ⟨rfl, hk5⟩; have K5 := qh (K4.out.trans' hk5); obtain ⟨⟨c0, c1, c2⟩, d0, d1, d2⟩ := SK.out _ K5.out; clear hk5)
     | (go_at_call 123; (with_reducible refine (TY.out _).mono ?_); rintro e w6 ⟨rfl, hk6⟩; have K6 := qh (K5.out.trans' hk6); clear hk6))
    go_ret
    exact ⟨qaT (by rw [HA.out]; omega), K1.out.trans' K6.out⟩
theorem qnN {n p s : Nat} (h : qbs n p) (h0 : n ≠ 0) : qbs (n * 2 ^ s) (p + s) := by
 have hp : p ≠ 0 := by rintro rfl; have := h.1; simp at this; exact h0 this
 refine ⟨by rw [Nat.pow_add]; exact Nat.mul_lt_mul_of_pos_right h.1 (Nat.pow_pos (by omega)), fun _ => ?_⟩
 rw [show p + s - 1 = p - 1 + s by omega, Nat.pow_add]
 exact Nat.mul_le_mul_right _ (h.2 hp)
theorem qdw (r : Nat) : Ieee.double.word false r = r := rfl
theorem qgG {x y m n : Nat} {s t : Bool} {i j : Int} (hx : Ieee.double.read x = .number s m i) (hy : Ieee.double.read y = .number t n j) : Ieee.double.mul x y = some (Ieee.double.nearest (s ^^ t) (m * n) (i + j)) := by
 unfold Ieee.Format.mul
 rw [hx, hy]; rfl
theorem qkf (M s : Nat) : qfk (M * 2 ^ s) s = M := by
 unfold qfk
 have h1 := Nat.pow_pos (n := s) (show 0 < 2 by omega)
 rw [Nat.mul_div_cancel _ h1, Nat.mul_mod_left, if_neg (by omega)]
 rfl
theorem qeN {M s : Nat} {Q : Int} (h53 : M < 9007199254740992) (hQ : -1074 ≤ Q) (hM : 4503599627370496 ≤ M ∨ Q = -1074) : Ieee.double.nearest false (M * 2 ^ s) (Q - s) = qaG M Q := by
 by_cases h0 : M = 0
 ·subst h0
  rw [Nat.zero_mul]
  have hq : Q = -1074 := by omega
  subst hq
  unfold Ieee.Format.nearest qaG
  rw [if_pos rfl, qdw]
  have e0 : ((-1074 : Int) + 1074).toNat = 0 := by decide
  rw [e0]; decide
 ·obtain ⟨p, hp⟩ : ∃ p, qbs M p := ⟨M.log2 + 1, Nat.lt_log2_self, fun _ => by rw [Nat.add_sub_cancel]; exact Nat.log2_self_le h0⟩
  have hp0 : p ≠ 0 := by rintro rfl; have := hp.1; simp at this; exact h0 this
  have hp53 : p ≤ 53 := by
   have h1 := hp.2 hp0
   have e53 : (2 : Nat) ^ 53 = 9007199254740992 := by decide
   have h2 : 2 ^ (p - 1) < 2 ^ 53 := by rw [e53]; exact Nat.lt_of_le_of_lt h1 h53
   have := (Nat.pow_lt_pow_iff_right (show 1 < 2 by omega)).1 h2
   omega
  have hp52 : 4503599627370496 ≤ M → p = 53 := by
   intro h
   have e52 : (2 : Nat) ^ 52 = 4503599627370496 := by decide
   have h1 : 2 ^ 52 < 2 ^ p := by rw [e52]; exact Nat.lt_of_le_of_lt h hp.1
   have := (Nat.pow_lt_pow_iff_right (show 1 < 2 by omega)).1 h1
   omega
  have hpos : M * 2 ^ s ≠ 0 := Nat.mul_ne_zero h0 (Nat.ne_of_gt (Nat.pow_pos (by omega)))
  rw [qe8 false (Q - s) hpos (qnN hp h0)]
  have hl : qan (p + s) (Q - s) = Q := by unfold qan; omega
  rw [hl]
  have hk : qbc (M * 2 ^ s) (Q - s) Q = M := by
   unfold qbc
   split
   ·rename_i h
    have hs : s = 0 := by omega
    subst hs
    rw [show (Q - ((0 : Nat) : Int) - Q).toNat = 0 by omega]; simp
   ·rw [show (Q - (Q - (s : Int))).toNat = s by omega, qkf]
  rw [hk, qdw, qaG]
theorem qfJ {M : Nat} {Q : Int} (h : (Q + 1074).toNat * 4503599627370496 + M < qaP) : qaG M Q = (Q + 1074).toNat * 4503599627370496 + M := Nat.min_eq_left (by omega)
theorem qlP {m p : Nat} (h0 : m ≠ 0) (hp : qbs m p) (hp53 : p ≤ 53) : Ieee.double.nearest false m 0 = (p + 1021) * 4503599627370496 + m * 2 ^ (53 - p) := by
 have hp0 : p ≠ 0 := by rintro rfl; have := hp.1; simp at this; exact h0 this
 rw [qe8 false 0 h0 hp]
 have hl : qan p 0 = (p : Int) - 53 := by unfold qan; omega
 have hm : m * 2 ^ (53 - p) < 9007199254740992 := by
  have h1 : m * 2 ^ (53 - p) < 2 ^ p * 2 ^ (53 - p) := Nat.mul_lt_mul_of_pos_right hp.1 (Nat.pow_pos (by omega))
  rw [← Nat.pow_add, show p + (53 - p) = 53 by omega] at h1
  exact h1
 have hk : qbc m 0 (qan p 0) = m * 2 ^ (53 - p) := by
  unfold qbc
  rw [if_pos (by omega), hl, show (0 - ((p : Int) - 53)).toNat = 53 - p by omega]
 rw [hk, hl, show ((p : Int) - 53 + 1074).toNat = p + 1021 by omega]
 rw [qdw]
 apply Nat.min_eq_left
 generalize m * 2 ^ (53 - p) = t at *
 clear hl hk hp h0
 unfold qaP; omega
theorem qhp : Ieee.double.nearest false 9007199254740992 0 = 1076 * 4503599627370496 := by decide +kernel
theorem qhe : Ieee.double.nearest false 0 0 = 0 := by decide
theorem qho {x : Nat} (h1 : 4503599627370496 ≤ x) (h2 : x < qaP) : Ieee.double.mul 4607182418800017408 x = some x := by
 have hx : x < 9223372036854775808 := by unfold qaP at h2; omega
 have hf : qbQ x = true := by unfold qbQ; rw [Nat.mod_eq_of_lt hx]; exact decide_eq_true h2
 have r1 : Ieee.double.read 4607182418800017408 = .number false 4503599627370496 (-52) := by decide
 rw [qgG r1 (qcF (by omega) hf), decide_eq_false (show ¬ SG ≤ x by unfold SG; omega), Bool.false_xor]
 have e1 : ¬ x / 4503599627370496 % 2048 = 0 := by unfold qaP at h2; omega
 have hm : qar x = x % 4503599627370496 + 4503599627370496 := by unfold qar; rw [if_neg e1]
 have he : qbk x = (x / 4503599627370496 % 2048 : Nat) - 1075 := by unfold qbk; rw [if_neg e1]
 have := qeN (M := qar x) (s := 52) (Q := qbk x) (qew x) (by omega) (.inl (by omega))
 rw [show (4503599627370496 : Nat) * qar x = qar x * 2 ^ 52 by rw [Nat.mul_comm]]
 rw [show (-52 + qbk x) = qbk x - ((52 : Nat) : Int) by omega]
 rw [this]
 congr 1
 rw [qfJ] <;> unfold qaP at * <;> omega
theorem qgn {m p : Nat} (h0 : m ≠ 0) (hp : qbs m p) (hp52 : p ≤ 52) : Ieee.double.mul 4368491638549381120 (p * 4503599627370496 + m * 2 ^ (53 - p)) = some m := by
 have hp0 : p ≠ 0 := by rintro rfl; have := hp.1; simp at this; exact h0 this
 have hm : m * 2 ^ (53 - p) < 9007199254740992 := by
  have h1 : m * 2 ^ (53 - p) < 2 ^ p * 2 ^ (53 - p) := Nat.mul_lt_mul_of_pos_right hp.1 (Nat.pow_pos (by omega))
  rw [← Nat.pow_add, show p + (53 - p) = 53 by omega] at h1
  exact h1
 have hm2 : 4503599627370496 ≤ m * 2 ^ (53 - p) := by
  have h1 : 2 ^ (p - 1) * 2 ^ (53 - p) ≤ m * 2 ^ (53 - p) := Nat.mul_le_mul_right _ (hp.2 hp0)
  rw [← Nat.pow_add, show p - 1 + (53 - p) = 52 by omega] at h1
  exact h1
 obtain ⟨x, hx⟩ : ∃ x, x = p * 4503599627370496 + m * 2 ^ (53 - p) := ⟨_, rfl⟩
 rw [← hx]
 have hlt : x < qaP := by unfold qaP; omega
 have hf : qbQ x = true := by unfold qbQ; rw [Nat.mod_eq_of_lt (by unfold qaP at hlt; omega)]; exact decide_eq_true hlt
 have r1 : Ieee.double.read 4368491638549381120 = .number false 4503599627370496 (-105) := by decide
 rw [qgG r1 (qcF (by unfold qaP at hlt; omega) hf), decide_eq_false (show ¬ SG ≤ x by unfold SG; unfold qaP at hlt; omega), Bool.false_xor]
 have e1 : x / 4503599627370496 % 2048 = p + 1 := by omega
 have hmn : qar x = m * 2 ^ (53 - p) := by unfold qar; rw [if_neg (by omega)]; omega
 have he : qbk x = (p : Int) - 1074 := by unfold qbk; rw [if_neg (by omega)]; omega
 have e52 : (2 : Nat) ^ 52 = 4503599627370496 := by decide
 have h52 : m < 2 ^ 52 := Nat.lt_of_lt_of_le hp.1 (Nat.pow_le_pow_right (by omega) hp52)
 rw [e52] at h52
 have := qeN (M := m) (s := 53 - p + 52) (Q := -1074) (by omega) (by omega) (.inr rfl)
 have e5 : (4503599627370496 : Nat) * (m * 2 ^ (53 - p)) = m * 2 ^ (53 - p + 52) := by
  rw [Nat.pow_add, e52, Nat.mul_comm, Nat.mul_assoc]
 rw [hmn, he, e5]
 have e6 : (-105 + ((p : Int) - 1074)) = -1074 - ((53 - p + 52 : Nat) : Int) := by omega
 have e7 : qaG m (-1074) = m := by
  have e0 : ((-1074 : Int) + 1074).toNat = 0 := by decide
  unfold qaG qaP
  rw [e0, Nat.zero_mul, Nat.zero_add]
  exact Nat.min_eq_left (by omega)
 rw [e6, this, e7]
section
set_option maxHeartbeats 3200000
set_option maxRecDepth 100000
attribute [local go_sem] run_float_arith qaI qaJ qau qah qae
theorem qmt (n : Nat) : qaG 9007199254740992 ((n : Int) - 1074) = min ((n + 2) * 4503599627370496) qaP := by
 unfold qaG
 rw [show ((n : Int) - 1074 + 1074).toNat = n by omega, show n * 4503599627370496 + 9007199254740992 = (n + 2) * 4503599627370496 by omega]
theorem qlR (m n : Nat) : qaG m ((n : Int) - 1074) = min (n * 4503599627370496 + m) qaP := by
 unfold qaG
 rw [show ((n : Int) - 1074 + 1074).toNat = n by omega]
theorem qfB {a b : Nat} (h : a = b) : Ending.returned (.float .f64 a) = Ending.returned (.float .f64 b) := by rw [h]
theorem qe9 (m n : Nat) (w : World) (hm : m ≤ 9007199254740992) (hn : n ≤ 2045) (h : 4503599627370496 ≤ m ∨ n = 0) :
  Calls prog 163 #[.bool false, .int .u64 (m : Int), .int .i64 ((n : Int) - 1074)] w fun en w' => en = .returned (.float .f64 (qaG m ((n : Int) - 1074))) ∧ w' = w := by
 by_cases h1 : m = 9007199254740992
 ·subst h1
  rw [qmt]
  have H := qh h
  clear h hm
  by_cases h2 : n = 2045
  ·subst h2
   go_enter func163, ntmps163
   go_wp2_with fail
   go_ret
   exact ⟨qfB (by decide), rfl⟩
  ·have h3 : n ≤ 2044 := by omega
   have e1 : ((n : Int) - 1074 + 1 + 1075) = n + 2 := by omega
   go_enter func163, ntmps163
   go_wp2_with fail
   go_ret
   refine ⟨qfB ?_, rfl⟩
   unfold qaP
   omega
 ·rw [qlR]
  have h1b : ((m : Int) == 9007199254740992) = false := by simpa using (show ¬ (m : Int) = 9007199254740992 by omega)
  have h1c : ¬ (m : Int) = 9007199254740992 := by omega
  by_cases h4 : 4503599627370496 ≤ m
  ·have i4 : (4503599627370496 : Int) ≤ m := by omega
   have e1 : ((n : Int) - 1074 + 1075) = n + 1 := by omega
   clear h
   go_enter func163, ntmps163
   go_wp2_with fail
   go_ret
   refine ⟨qfB ?_, rfl⟩
   unfold qaP
   omega
  ·obtain rfl : n = 0 := by omega
   have i4 : ¬ (4503599627370496 : Int) ≤ m := by omega
   clear h
   go_enter func163, ntmps163
   go_wp2_with fail
   go_ret
   refine ⟨qfB ?_, rfl⟩
   unfold qaP
   omega
theorem qg5 (neg : Bool) (x : Nat) (w : World) (hx : x < 9223372036854775808) :
  Calls prog 130 #[.bool neg, .float .f64 x] w fun en w' => en = .returned (.float .f64 (Ieee.double.word neg x)) ∧ w' = w := by
 cases neg with
 | false =>
  go_enter func130, ntmps130
  go_wp2_with fail
  go_ret
  exact ⟨rfl, rfl⟩
 | true =>
  have HW := qh (show Ieee.double.word true x = 9223372036854775808 + x from rfl)
  go_enter func130, ntmps130
  go_wp2_with fail
  go_ret
  exact ⟨qfB (by rw [HW.out]; omega), rfl⟩
theorem qij {l : List Nat} {i : Nat} : qac 256 (l.drop i) ≤ qac 256 l := by
 by_cases h : i ≤ l.length
 ·rw [qcS l i h]
  have : 1 * qac 256 (l.drop i) ≤ 256 ^ i * qac 256 (l.drop i) := Nat.mul_le_mul_right _ (Nat.pow_pos (by omega))
  omega
 ·rw [List.drop_eq_nil_of_le (by omega)]; simp [qac]
theorem drop_step {l : List Nat} {i x : Nat} (h : l[i]? = some x) : qac 256 (l.drop i) = x + 256 * qac 256 (l.drop (i + 1)) := by
 have hi := (List.getElem?_eq_some_iff.1 h).1
 rw [List.drop_eq_getElem_cons hi, qac]
 rw [List.getElem?_eq_getElem hi] at h
 rw [Option.some.inj h]
theorem qoy (W : World) : qbn (W.alloc (.cells #[.int .i64 1] 3)) (.slice (some ⟨W.heap.size, 0, none⟩) 1 1) 1 1 :=
 ⟨some ⟨W.heap.size, 0, none⟩, 1, [1], rfl, by simp, by simp, Row.new W _ _ _ _ rfl, ⟨by simp, rfl, by simp⟩⟩
end
section
set_option maxHeartbeats 6400000
set_option maxRecDepth 100000
attribute [local go_sem] run_float_arith qaI qaJ qau qah qae
theorem qlL {p : Nat} {e : Int} : ∃ n : Nat, qan p e = (n : Int) - 1074 := ⟨(qan p e + 1074).toNat, by
 have : qan p e = max ((p : Int) - 1 + e - 52) (-1074) := rfl
 omega⟩
def qcj (n : Nat) (e q : Int) : Nat := if q ≤ e then n * 2 ^ (e - q).toNat else n / 2 ^ (q - e).toNat
section
variable {n p : Nat} {e : Int}
theorem qlS (hp : qbs n p) : qcj n e (qan p e) < 9007199254740992 := by
 have hl : qan p e = max ((p : Int) - 1 + e - 52) (-1074) := rfl
 unfold qcj
 split
 ·rename_i h
  have h1 : n * 2 ^ (e - qan p e).toNat < 2 ^ p * 2 ^ (e - qan p e).toNat := Nat.mul_lt_mul_of_pos_right hp.1 (Nat.pow_pos (by omega))
  rw [← Nat.pow_add] at h1
  have h2 : 2 ^ (p + (e - qan p e).toNat) ≤ 2 ^ 53 := Nat.pow_le_pow_right (by omega) (by omega)
  omega
 ·rename_i h
  rw [Nat.div_lt_iff_lt_mul (Nat.pow_pos (by omega)), show (9007199254740992 : Nat) = 2 ^ 53 by decide, ← Nat.pow_add]
  exact Nat.lt_of_lt_of_le hp.1 (Nat.pow_le_pow_right (by omega) (by omega))
theorem qmh (hp : qbs n p) (h0 : n ≠ 0) (hq : -1074 < qan p e) : 4503599627370496 ≤ qcj n e (qan p e) := by
 have hl : qan p e = (p : Int) - 1 + e - 52 := by
  have : qan p e = max ((p : Int) - 1 + e - 52) (-1074) := rfl
  omega
 have hp0 : p ≠ 0 := by rintro rfl; have := hp.1; simp at this; exact h0 this
 have h3 := hp.2 hp0
 unfold qcj
 split
 ·rename_i h
  have h1 : 2 ^ (p - 1) * 2 ^ (e - qan p e).toNat ≤ n * 2 ^ (e - qan p e).toNat := Nat.mul_le_mul_right _ h3
  rw [← Nat.pow_add, show p - 1 + (e - qan p e).toNat = 52 by omega] at h1
  exact h1
 ·rename_i h
  have h1 : 2 ^ (p - 1) / 2 ^ (qan p e - e).toNat ≤ n / 2 ^ (qan p e - e).toNat := Nat.div_le_div_right h3
  rw [Nat.pow_div (by omega) (by omega), show p - 1 - (qan p e - e).toNat = 52 by omega] at h1
  exact h1
theorem qob {q : Int} (h : q ≤ e) : qbc n e q = qcj n e q := by unfold qbc qcj; rw [if_pos h, if_pos h]
theorem ql6 {q : Int} (h : ¬ q ≤ e) (hr : n % 2 ^ (q - e).toNat = 0) : qbc n e q = qcj n e q := by
 unfold qbc qcj; rw [if_neg h, if_neg h]
 unfold qfk
 have hp : 0 < 2 ^ (q - e).toNat := Nat.pow_pos (by omega)
 rw [hr, if_neg (by omega)]; rfl
theorem qm2 {q : Int} (h : ¬ q ≤ e) (wh : Int) (hw : wh = 2 + qbD (n % 2 ^ (q - e).toNat * 2 ^ 1) (2 ^ (q - e).toNat)) (m : Nat) (hm : m = qcj n e q) :
  (if wh < 2 ∨ (wh = 2 ∧ (decide (m % 2 = 0)) = true) then m else m + 1) = qbc n e q := by
 have e1 : qcj n e q = n / 2 ^ (q - e).toNat := by unfold qcj; rw [if_neg h]
 unfold qbc
 rw [if_neg h]
 unfold qfk
 rw [← e1, ← hm]
 rw [Nat.pow_one, Nat.mul_comm] at hw
 rcases Nat.lt_trichotomy (2 * (n % 2 ^ (q - e).toNat)) (2 ^ (q - e).toNat) with h1 | h1 | h1
 ·rw [qcv h1] at hw
  rw [if_pos (.inl (by omega)), if_neg (by omega)]; rfl
 ·rw [h1, qd7] at hw
  by_cases h2 : m % 2 = 0
  ·rw [if_pos (.inr ⟨by omega, decide_eq_true h2⟩), if_neg (by omega)]; rfl
  ·rw [if_neg, if_pos (by omega)]
   rintro (h3 | ⟨-, h3⟩)
   ·omega
   ·exact h2 (of_decide_eq_true h3)
 ·rw [qdi h1] at hw
  rw [if_neg (by omega), if_pos (.inl h1)]
theorem qnC {q : Int} (h : n < 2 ^ ((q - e).toNat - 1)) (hq : 0 < (q - e).toNat) : qbc n e q = 0 := by
 unfold qbc
 rw [if_neg (by omega)]
 unfold qfk
 obtain ⟨k, hk⟩ : ∃ k, (q - e).toNat = k + 1 := ⟨(q - e).toNat - 1, by omega⟩
 rw [hk] at h ⊢
 rw [Nat.add_sub_cancel] at h
 have h2 : n < 2 ^ (k + 1) := by rw [Nat.pow_succ]; omega
 rw [Nat.div_eq_of_lt h2, Nat.mod_eq_of_lt h2, if_neg (by rw [Nat.pow_succ]; omega)]
end
theorem qke (d : DyD) (p : Nat) (w : World) (hd : qad d = true) (h0 : d.num ≠ 0) (hp : qbs d.num.natAbs p) (ht : 1024 ≤ (p : Int) - 1 + d.e) :
  Calls prog 129 #[.agg #[.bool d.neg, .string d.n, .int .i64 d.e]] w fun en w' => (∃ a, en = .returned (.tuple #[.float .f64 a, .float .f64 qaP, .int .i64 3, .bool false])) ∧ Kept w w' := by
 have TX := qh (fun W => qeB d p W hd h0 hp)
 obtain ⟨T, hT⟩ : ∃ T, T = (p : Int) - 1 + d.e := ⟨_, rfl⟩
 rw [← hT] at TX ht
 have P1 : Hid (∀ W, Calls prog 163 #[.bool false, .int .u64 9007199254740991, .int .i64 971] W fun en w' => en = .returned (.float .f64 (qaG 9007199254740991 971)) ∧ w' = W) := fun W => qe9 9007199254740991 2045 W (by decide) (by decide) (.inl (by decide))
 have P2 : Hid (∀ W, Calls prog 163 #[.bool false, .int .u64 9007199254740992, .int .i64 971] W fun en w' => en = .returned (.float .f64 qaP) ∧ w' = W) := fun W => qe9 9007199254740992 2045 W (by decide) (by decide) (.inl (by decide))
 generalize qaG 9007199254740991 971 = a9 at *
 obtain ⟨xn, xs, xe⟩ := d
 simp only at TX ⊢
 clear hd h0 hp hT
 go_enter func129, ntmps129
 go_upto_region 1 with fail
 obtain ⟨b, w1, hw, hb, B0, K1, HB⟩ := qa4 w (LC0 xn xs xe) 24
 rw [← hw, ← hb]; clear hw hb
 obtain ⟨c0, c1, c2⟩ := B0.out.c3
 go_wp2_with (first
  | (go_at_call 123; (with_reducible refine (TX.out _).mono ?_); rintro e w3 ⟨rfl, hk3⟩; have K3 := qh (K1.out.trans' hk3); clear hk3)
  | (go_at_call 163; (with_reducible refine (P1.out _).mono ?_); rintro e w4 ⟨rfl, hw⟩; replace hw := hw.symm; subst hw)
  | (go_at_call 163; (with_reducible refine (P2.out _).mono ?_); rintro e w4 ⟨rfl, hw⟩; replace hw := hw.symm; subst hw))
 exact bodyPost_ret (v := .tuple #[.float .f64 a9, .float .f64 qaP, .int .i64 3, .bool false]) (by simp [results, results129, go_sem]) rfl ⟨⟨_, rfl⟩, K3.out⟩
theorem qkn (d : DyD) (p : Nat) (w : World) (hd : qad d = true) (h0 : d.num ≠ 0) (hp : qbs d.num.natAbs p) (ht : (p : Int) - 1 + d.e < 1024) :
  Calls prog 129 #[.agg #[.bool d.neg, .string d.n, .int .i64 d.e]] w fun en w' => ∃ (m : Nat) (wh : Int) (ev : Bool), en = .returned (.tuple #[.float .f64 (qaG m (qan p d.e)), .float .f64 (qaG (m + 1) (qan p d.e)), .int .i64 wh, .bool ev]) ∧ (if wh < 2 ∨ (wh = 2 ∧ ev = true) then m else m + 1) = qbc d.num.natAbs d.e (qan p d.e) ∧ Kept w w' := by
 have TX := qh (fun W => qeB d p W hd h0 hp)
 have OX := qh (fun W => qkr hd W)
 have hxe := (qag hd).2.2.2
 have hp9 : p ≤ 8 * 16384 := qcU hp (qag hd).1
 obtain ⟨xn, xs, xe⟩ := d
 simp only at TX OX hxe ht ⊢
 obtain ⟨N, hN⟩ : ∃ N, N = (DyD.mk xn xs xe).num.natAbs := ⟨_, rfl⟩
 have hN0 : N ≠ 0 := by omega
 rw [← hN] at OX hp ⊢
 have hlt := qlS (e := xe) hp
 have hge := qmh (e := xe) hp hN0
 obtain ⟨Q, hQ⟩ : ∃ Q, Q = qan p xe := ⟨_, rfl⟩
 obtain ⟨nn, hnn⟩ := qlL (p := p) (e := xe)
 rw [← hQ] at hlt hge hnn ⊢
 have hQ2 : Q = max ((p : Int) - 1 + xe - 52) (-1074) := hQ
 obtain ⟨T, hT⟩ : ∃ T, T = (p : Int) - 1 + xe := ⟨_, rfl⟩
 rw [← hT] at TX ht hQ2
 have hn9 : nn ≤ 2045 := by omega
 have PK : Hid (∀ (m : Nat) W, m ≤ 9007199254740992 → (4503599627370496 ≤ m ∨ nn = 0) → Calls prog 163 #[.bool false, .int .u64 (m : Int), .int .i64 Q] W fun en w' => en = .returned (.float .f64 (qaG m Q)) ∧ w' = W) := fun m W h1 h2 => by
  rw [hnn]; exact qe9 m nn W h1 hn9 h2
 obtain ⟨M, hM⟩ : ∃ M, M = qcj N xe Q := ⟨_, rfl⟩
 rw [← hM] at hlt hge
 have PK1 : Hid (∀ W, Calls prog 163 #[.bool false, .int .u64 (M : Int), .int .i64 Q] W fun en w' => en = .returned (.float .f64 (qaG M Q)) ∧ w' = W) := fun W => PK.out M W (by omega) (by rcases Nat.eq_zero_or_pos nn with h | h; exact .inr h; exact .inl (hge (by omega)))
 have PK2 : Hid (∀ W, Calls prog 163 #[.bool false, .int .u64 ((M : Int) + 1), .int .i64 Q] W fun en w' => en = .returned (.float .f64 (qaG (M + 1) Q)) ∧ w' = W) := fun W => PK.out (M + 1) W (by omega) (by rcases Nat.eq_zero_or_pos nn with h | h; exact .inr h; exact .inl (by have := hge (by omega); omega))
 have PK3 : Hid (nn = 0 → ∀ W, Calls prog 163 #[.bool false, .int .u64 1, .int .i64 Q] W fun en w' => en = .returned (.float .f64 (qaG 1 Q)) ∧ w' = W) := fun h W => PK.out 1 W (by omega) (.inr h)
 have i1 : ¬ (1024 : Int) ≤ T := by omega
 have ew1 : IntKind.i64.wrap (T - 52) = T - 52 := IntWalk.i64_in _ (by omega)
 have i1b : decide ((1024 : Int) ≤ T) = false := decide_eq_false i1
 have emx : max (T - 52) (-1074) = Q := hQ2.symm
 have HQ := qh (And.intro hnn (And.intro hQ2 hT))
 have HP := qh hp
 have HMM := qh hM
 have hQb : -1074 ≤ Q ∧ Q ≤ 971 := by omega
 have hQx : Q ≤ xe → xe - Q ≤ 1000 := fun h => by have := hp.2; rcases Nat.eq_zero_or_pos p with h5 | h5 <;> omega
 have hQy : xe < Q → Q - xe ≤ 2000000 := fun h => by omega
 clear hd h0 hp hN hQ hnn hQ2 hT hge hM PK
 go_enter func129, ntmps129
 go_upto_region 1 with fail
 obtain ⟨b, w1, hw, hb, B0, K1, HB⟩ := qa4 w (LC0 xn xs xe) 24
 rw [← hw, ← hb]; clear hw hb
 obtain ⟨c0, c1, c2⟩ := B0.out.c3
 go_upto_region 4 with (go_at_call 123; (with_reducible refine (TX.out _).mono ?_); rintro e w3 ⟨rfl, hk3⟩)
 obtain ⟨c0, c1, c2⟩ := (B0.out.kept hk3).c3
 have K3 := qh (K1.out.trans' hk3)
 have B3 := qh (B0.out.kept hk3)
 clear hk3
 go_upto_region 7 with (go_at_call 124; (with_reducible refine (OX.out _).mono ?_); rintro e w5 ⟨A, c, l, rfl, hlc, hl, hr, hdl, hk5⟩)
 obtain ⟨c0, c1, c2⟩ := (B3.out.kept hk5).c3
 have K5 := qh (K3.out.trans' hk5)
 have B5 := qh (B3.out.kept hk5)
 have VX : Hid (qbn w5 (.slice A l.length c) N 16384) := ⟨A, c, l, rfl, hlc, hl, hr, hdl⟩
 obtain ⟨L, hL⟩ : ∃ L, L = l.length := ⟨_, rfl⟩
 rw [← hL] at VX ⊢
 have hLb : L ≤ 16384 := by omega
 have HD := qh (And.intro hL hdl)
 have HR5 := qh hr
 clear hlc hl hr hdl hL B3 K3 B0 OX TX
 have R5 := HR5
 by_cases hq : Q ≤ xe
 ·have hq1 := hQx hq
  obtain ⟨k, hk⟩ : ∃ k, k = (xe - Q).toNat := ⟨_, rfl⟩
  have hkI : IntKind.i64.wrap (xe - Q) = (k : Int) := by rw [IntWalk.i64_in _ (by omega)]; omega
  have hkb : k ≤ 1000 := by omega
  have HM2 := qh (show M = N * 2 ^ k by rw [HMM.out, hk]; unfold qcj; rw [if_pos hq])
  have KEEP := qh (show qbc N xe Q = M by rw [HMM.out]; exact qob hq)
  clear hk hQx hQy
  go_upto_region 9 with (go_at_call 125; (with_reducible refine (qe3 VX.out (by omega) k (by omega)).mono ?_); rintro e w6 ⟨vw, rfl, hvw, hk6⟩)
  have VW := qh (hvw.kept (Kept.new (Below.refl _ w6) (.cells #[.int .i64 1] 3)))
  have HKK := qh (Kept.new (K5.out.trans' hk6) (.cells #[.int .i64 1] 3))
  clear hvw hk6
  go_upto_region 17 with fail
  generalize World.alloc w6 _ = WQ at *
  obtain ⟨AW, cW, LW, rfl, hWc, hWl, hWr, hWd⟩ := VW.out
  obtain ⟨lw, hlw⟩ : ∃ n, n = LW.length := ⟨_, rfl⟩
  rw [← hlw] at hWc hWl ⊢
  have HLW := qh hlw
  have RW := qh hWr
  have DW : Hid (D8 LW M) := by rw [HM2.out]; exact hWd
  have hlwb : lw ≤ 100000 := by omega
  clear hlw hWr hWd hWl hWc
  go_wp2_with fail
  go_loopg [14, 15] lw (fun gh v14 v15 wr => v15 = .int .i64 ((gh : Int) - 1) ∧ gh ≤ lw ∧ v14 = .int .u64 (qac 256 (LW.drop gh) : Nat) ∧ wr = WQ)
  case atStart => exact ⟨by go_num, Nat.le_refl _, by rw [List.drop_eq_nil_of_le (by have := HLW.out; omega)]; rfl, rfl⟩
  case round =>
   obtain ⟨rfl, hgn, rfl, rfl⟩ := hrel
   cases gk with
   | zero =>
    have hM : qac 256 (LW.drop 0) = M := by rw [List.drop_zero]; exact DW.out.val
    rw [hM]
    clear hM
    go_wp2_with (first
     | (go_at_call 163; (with_reducible refine (PK1.out _).mono ?_); rintro e w4 ⟨rfl, hw⟩; replace hw := hw.symm; subst hw)
     | (go_at_call 163; (with_reducible refine (PK2.out _).mono ?_); rintro e w4 ⟨rfl, hw⟩; replace hw := hw.symm; subst hw))
    exact bodyPost_ret (v := .tuple #[.float .f64 (qaG M Q), .float .f64 (qaG (M + 1) Q), .int .i64 0, .bool (decide (M % 2 = 0))]) (by simp [results, results129, go_sem]; rw [Bool.eq_iff_iff]; simp; omega) rfl ⟨M, 0, decide (M % 2 = 0), rfl, by rw [if_pos (.inl (by omega))]; exact KEEP.out.symm, HKK.out⟩
   | succ gh =>
    obtain ⟨x, hx⟩ : ∃ x, LW[gh]? = some x := ⟨_, List.getElem?_eq_getElem (by have := HLW.out; omega)⟩
    obtain ⟨bx, ox, hA, cx⟩ := qbS RW.out hx
    first | subst hA | cases hA
    have hxb := DW.out.ok x (List.mem_of_getElem? hx)
    have hst := drop_step hx
    have hle := qij (l := LW) (i := gh)
    rw [DW.out.val] at hle
    obtain ⟨z, hz⟩ : ∃ z, z = qac 256 (LW.drop (gh + 1)) := ⟨_, rfl⟩
    obtain ⟨y, hy⟩ : ∃ y, y = qac 256 (LW.drop gh) := ⟨_, rfl⟩
    rw [← hz, ← hy] at hst
    rw [← hy] at hle
    rw [← hz]
    have HY := qh (And.intro hy hst)
    have hzb : 256 * z + x < 9007199254740992 := by omega
    have hg1 : ((gh : Int) + 1 - 1) = gh := by omega
    have hg2 : (0 : Int) ≤ gh := by omega
    have hg3 : (gh : Int) < lw := by omega
    have hw5 : IntKind.u64.wrap (x : Int) = (x : Int) := by rw [IntKind.wrap_u64]; omega
    clear hst hle hz hy hx
    go_wp2_with fail
    go_roundg gh
    case measure => omega
    case rel => exact ⟨by go_num, by omega, by rw [← HY.out.1, HY.out.2]; first | rfl | (congr 1; omega), rfl⟩
 ·have hq1 := hQy (by omega)
  obtain ⟨k, hk⟩ : ∃ k, k = (Q - xe).toNat := ⟨_, rfl⟩
  have hkI : IntKind.i64.wrap (Q - xe) = (k : Int) := by rw [IntWalk.i64_in _ (by omega)]; omega
  have hkb : k ≤ 2000000 := by omega
  have hk0 : 0 < k := by omega
  have HM2 := qh (show M = N / 2 ^ k by rw [HMM.out, hk]; unfold qcj; rw [if_neg hq])
  by_cases hf : 8 * L < k
  ·have hfI : (8 : Int) * L < k := by omega
   have HF := qh (show qbc N xe Q = 0 ∧ Q = -1074 by
    have hl1 : N < 2 ^ (8 * L) := by rw [← qje, HD.out.1]; exact HD.out.2.lt
    have hpL : p ≤ 8 * L := by
     rcases Nat.eq_zero_or_pos p with h5 | h5
     ·omega
     ·have h6 := HP.out.2 (by omega)
      have h7 : 2 ^ (p - 1) < 2 ^ (8 * L) := Nat.lt_of_le_of_lt h6 hl1
      have := (Nat.pow_lt_pow_iff_right (show 1 < 2 by omega)).1 h7
      omega
    have hQQ := HQ.out.2.1
    have hTT := HQ.out.2.2
    refine ⟨qnC (Nat.lt_of_lt_of_le hl1 (Nat.pow_le_pow_right (by omega) (by omega))) (by omega), by omega⟩)
   have HN0 := qh (show nn = 0 by have := HQ.out.1; have := HF.out.2; omega)
   have P3 := qh (PK3.out HN0.out)
   have HZ := qh (show qaG 0 Q = 0 by rw [HF.out.2]; decide)
   clear PK3 PK1 PK2 hQx hQy hk
   go_wp2_with (go_at_call 163; (with_reducible refine (P3.out _).mono ?_); rintro e w6 ⟨rfl, hw⟩; replace hw := hw.symm; subst hw)
   exact bodyPost_ret (v := .tuple #[.float .f64 0, .float .f64 (qaG 1 Q), .int .i64 1, .bool true]) (by simp [results, results129, go_sem]) rfl ⟨0, 1, true, by rw [HZ.out], by rw [if_pos (.inl (by omega))]; exact HF.out.1.symm, K5.out.trans' (Kept.new (Below.refl _ _) _)⟩
  ·have hfI : ¬ (8 : Int) * L < k := by omega
   have HAL : Hid (Calls prog 164 #[.slice A L c, .int .i64 (k : Int)] w5 fun e w' => ∃ v, e = .returned v ∧ qbn w' v M 16384 ∧ Kept w5 w') := by
    rw [HM2.out, HD.out.1]
    refine (qgN A c l N k w5 (by have := HD.out.1; omega) (by have := HD.out.1; omega) R5.out HD.out.2).mono ?_
    rintro e w' ⟨v, h1, ⟨A2, c2, l2, r1, r2, r3, r4⟩, hk⟩
    exact ⟨v, h1, ⟨A2, c2, l2, r1, r2, by have := HD.out.1; omega, r4⟩, hk⟩
   have hMle : M * 2 ^ k ≤ N := by rw [HM2.out]; exact Nat.div_mul_le_self _ _
   have hRm : N - M * 2 ^ k = N % 2 ^ k := by
    have := Nat.div_add_mod N (2 ^ k)
    rw [← HM2.out, Nat.mul_comm] at this
    omega
   have HK := qh hk
   have HQN := qh (show ¬ Q ≤ xe by omega)
   have HMle := qh hMle
   have HRm := qh hRm
   clear hk hQx hQy hMle hRm
   go_upto_region 15 with (go_at_call 164; (with_reducible refine HAL.out.mono ?_); rintro e w6 ⟨vw, rfl, hvw, hk6⟩)
   have VW := qh hvw
   have VX6 := qh (VX.out.kept hk6)
   have K6 := qh (K5.out.trans' hk6)
   clear hvw hk6 HAL VX c0 c1 c2
   go_upto_region 16 with (first
    | (go_at_call 125; (with_reducible refine (qe3 VW.out (by omega) k (by omega)).mono ?_); rintro e w7 ⟨vt, rfl, hvt, hk7⟩; have VT := qh hvt; have VW7 := qh (VW.out.kept hk7); have VX7 := qh (VX6.out.kept hk7); have K7 := qh (K6.out.trans' hk7); clear hvt hk7)
    | (go_at_call 137; (with_reducible refine (qib VX7.out VT.out (by omega) HMle.out).mono ?_); rintro e w8 ⟨vr, rfl, hvr, hk8⟩; have VR := qh hvr; have VW8 := qh (VW7.out.kept hk8); have K8 := qh (K7.out.trans' hk8); clear hvr hk8))
   rw [HRm.out] at VR
   clear VT VW7 VX7 K7 VX6 VW
   have ONE := qh (qoy w8)
   have KO := qh (Kept.new (Below.refl _ w8) (.cells #[.int .i64 1] 3))
   go_upto_region 17 with (go_at_call 125; (with_reducible refine (qe3 ONE.out (by omega) k (by omega)).mono ?_); rintro e w9 ⟨vo, rfl, hvo, hk9⟩)
   have VO := qh hvo
   have KQ := qh (KO.out.trans' hk9)
   rw [Nat.one_mul] at VO
   have VW := qh (VW8.out.kept KQ.out)
   have VRR := qh (VR.out.kept KQ.out)
   have HKK := qh (K8.out.trans' KQ.out)
   clear hvo hk9 VW8 VR K8 KQ KO ONE K6 K5
   obtain ⟨WQ, hWQ⟩ : ∃ W, W = w9 := ⟨_, rfl⟩
   subst hWQ
   obtain ⟨AR, cR, LR, rfl, hRc, hRl, hRr, hRd⟩ := VRR.out
   have VR2 : Hid (qbn WQ (.slice AR LR.length cR) (N % 2 ^ k) 16384) := ⟨AR, cR, LR, rfl, hRc, hRl, hRr, hRd⟩
   obtain ⟨lr, hlr⟩ : ∃ n, n = LR.length := ⟨_, rfl⟩
   rw [← hlr] at VR2 ⊢
   by_cases hlr0 : lr = 0
   ·have hR0 : N % 2 ^ k = 0 := (hRd.qcb (by omega)).1 (List.eq_nil_of_length_eq_zero (by omega))
    have KEEP := qh (show qbc N xe Q = M by rw [HMM.out]; exact ql6 (by have := HQN.out; omega) (by rw [← HK.out]; exact hR0))
    subst hlr0
    clear hRr hRd hRc hRl hlr VRR hR0
    obtain ⟨AW, cW, LW, rfl, hWc, hWl, hWr, hWd⟩ := VW.out
    obtain ⟨lw, hlw⟩ : ∃ n, n = LW.length := ⟨_, rfl⟩
    rw [← hlw] at hWc hWl ⊢
    have HLW := qh hlw
    have RW := qh hWr
    have DW : Hid (D8 LW M) := hWd
    have hlwb : lw ≤ 100000 := by omega
    clear hlw hWr hWd hWl hWc
    go_wp2_with fail
    go_loopg [14, 15] lw (fun gh v14 v15 wr => v15 = .int .i64 ((gh : Int) - 1) ∧ gh ≤ lw ∧ v14 = .int .u64 (qac 256 (LW.drop gh) : Nat) ∧ wr = WQ)
    case atStart => exact ⟨by go_num, Nat.le_refl _, by rw [List.drop_eq_nil_of_le (by have := HLW.out; omega)]; rfl, rfl⟩
    case round =>
     obtain ⟨rfl, hgn, rfl, rfl⟩ := hrel
     cases gk with
     | zero =>
      have hM : qac 256 (LW.drop 0) = M := by rw [List.drop_zero]; exact DW.out.val
      rw [hM]
      clear hM
      go_wp2_with (first
       | (go_at_call 163; (with_reducible refine (PK1.out _).mono ?_); rintro e w4 ⟨rfl, hw⟩; replace hw := hw.symm; subst hw)
       | (go_at_call 163; (with_reducible refine (PK2.out _).mono ?_); rintro e w4 ⟨rfl, hw⟩; replace hw := hw.symm; subst hw))
      exact bodyPost_ret (v := .tuple #[.float .f64 (qaG M Q), .float .f64 (qaG (M + 1) Q), .int .i64 0, .bool (decide (M % 2 = 0))]) (by simp [results, results129, go_sem]; rw [Bool.eq_iff_iff]; simp; omega) rfl ⟨M, 0, decide (M % 2 = 0), rfl, by rw [if_pos (.inl (by omega))]; exact KEEP.out.symm, HKK.out⟩
     | succ gh =>
      obtain ⟨x, hx⟩ : ∃ x, LW[gh]? = some x := ⟨_, List.getElem?_eq_getElem (by have := HLW.out; omega)⟩
      obtain ⟨bx, ox, hA, cx⟩ := qbS RW.out hx
      first | subst hA | cases hA
      have hxb := DW.out.ok x (List.mem_of_getElem? hx)
      have hst := drop_step hx
      have hle := qij (l := LW) (i := gh)
      rw [DW.out.val] at hle
      obtain ⟨z, hz⟩ : ∃ z, z = qac 256 (LW.drop (gh + 1)) := ⟨_, rfl⟩
      obtain ⟨y, hy⟩ : ∃ y, y = qac 256 (LW.drop gh) := ⟨_, rfl⟩
      rw [← hz, ← hy] at hst
      rw [← hy] at hle
      rw [← hz]
      have HY := qh (And.intro hy hst)
      have hzb : 256 * z + x < 9007199254740992 := by omega
      have hg1 : ((gh : Int) + 1 - 1) = gh := by omega
      have hg2 : (0 : Int) ≤ gh := by omega
      have hg3 : (gh : Int) < lw := by omega
      have hw5 : IntKind.u64.wrap (x : Int) = (x : Int) := by rw [IntKind.wrap_u64]; omega
      clear hst hle hz hy hx
      go_wp2_with fail
      go_roundg gh
      case measure => omega
      case rel => exact ⟨by go_num, by omega, by rw [← HY.out.1, HY.out.2]; first | rfl | (congr 1; omega), rfl⟩
   ·have hlrI : (0 : Int) < lr := by omega
    have hlrb : lr ≤ 16384 := by omega
    have SHR : Hid (∀ W, Kept WQ W → Calls prog 125 #[.slice AR lr cR, .int .i64 1] W fun e w' => ∃ u, e = .returned u ∧ qbn w' u (N % 2 ^ k * 2 ^ 1) 16386 ∧ Kept W w') := fun W hW => (qe3 (VR2.out.kept hW) (by omega) 1 (by omega)).mono fun e w' ⟨u, h1, ⟨A, c, l, q1, q2, q3, q4⟩, h3⟩ => ⟨u, h1, ⟨A, c, l, q1, q2, by omega, q4⟩, h3⟩
    obtain ⟨cc, hcc⟩ : ∃ cc, cc = qbD (N % 2 ^ k * 2 ^ 1) (2 ^ k) := ⟨_, rfl⟩
    have hccb : -1 ≤ cc ∧ cc ≤ 1 := by rw [hcc]; unfold qbD; split; omega; split <;> omega
    have CMP : Hid (∀ W v, Kept WQ W → qbn W v (N % 2 ^ k * 2 ^ 1) 16386 → Calls prog 126 #[v, vo] W fun e w' => e = .returned (.int .i64 cc) ∧ Kept W w') := fun W v hW h => by
     rw [hcc]
     exact qk7 h (VO.out.kept hW) (by omega) (by omega)
    have KEEP := qh (show ¬ Q ≤ xe ∧ 2 + cc = 2 + qbD (N % 2 ^ (Q - xe).toNat * 2 ^ 1) (2 ^ (Q - xe).toNat) ∧ M = qcj N xe Q from ⟨by have := HQN.out; omega, by rw [← HK.out, hcc], HMM.out⟩)
    clear hRr hRd hRc hRl hlr VRR hcc hlr0
    obtain ⟨AW, cW, LW, rfl, hWc, hWl, hWr, hWd⟩ := VW.out
    obtain ⟨lw, hlw⟩ : ∃ n, n = LW.length := ⟨_, rfl⟩
    rw [← hlw] at hWc hWl ⊢
    have HLW := qh hlw
    have RW := qh hWr
    have DW : Hid (D8 LW M) := hWd
    have hlwb : lw ≤ 100000 := by omega
    clear hlw hWr hWd hWl hWc
    go_wp2_with fail
    go_loopg [14, 15] lw (fun gh v14 v15 wr => v15 = .int .i64 ((gh : Int) - 1) ∧ gh ≤ lw ∧ v14 = .int .u64 (qac 256 (LW.drop gh) : Nat) ∧ wr = WQ)
    case atStart => exact ⟨by go_num, Nat.le_refl _, by rw [List.drop_eq_nil_of_le (by have := HLW.out; omega)]; rfl, rfl⟩
    case round =>
     obtain ⟨rfl, hgn, rfl, rfl⟩ := hrel
     cases gk with
     | zero =>
      have hM : qac 256 (LW.drop 0) = M := by rw [List.drop_zero]; exact DW.out.val
      rw [hM]
      clear hM
      go_wp2_with (first
       | (go_at_call 125; (with_reducible refine (SHR.out _ (Below.refl _ _)).mono ?_); rintro e w7 ⟨v7, rfl, hv7, hk7⟩; have K7 := qh hk7; have V7 := qh hv7; clear hk7 hv7)
       | (go_at_call 126; (with_reducible refine (CMP.out _ v7 K7.out V7.out).mono ?_); rintro e w8 ⟨rfl, hk8⟩; have K8 := qh (K7.out.trans' hk8); clear hk8)
       | (go_at_call 163; (with_reducible refine (PK1.out _).mono ?_); rintro e w4 ⟨rfl, hw⟩; replace hw := hw.symm; subst hw)
       | (go_at_call 163; (with_reducible refine (PK2.out _).mono ?_); rintro e w4 ⟨rfl, hw⟩; replace hw := hw.symm; subst hw))
      exact bodyPost_ret (v := .tuple #[.float .f64 (qaG M Q), .float .f64 (qaG (M + 1) Q), .int .i64 (2 + cc), .bool (decide (M % 2 = 0))]) (by simp [results, results129, go_sem]; rw [Bool.eq_iff_iff]; simp; omega) rfl ⟨M, 2 + cc, decide (M % 2 = 0), rfl, qm2 (n := N) (e := xe) (q := Q) (by have := KEEP.out.1; omega) _ KEEP.out.2.1 _ KEEP.out.2.2, HKK.out.trans' K8.out⟩
     | succ gh =>
      obtain ⟨x, hx⟩ : ∃ x, LW[gh]? = some x := ⟨_, List.getElem?_eq_getElem (by have := HLW.out; omega)⟩
      obtain ⟨bx, ox, hA, cx⟩ := qbS RW.out hx
      first | subst hA | cases hA
      have hxb := DW.out.ok x (List.mem_of_getElem? hx)
      have hst := drop_step hx
      have hle := qij (l := LW) (i := gh)
      rw [DW.out.val] at hle
      obtain ⟨z, hz⟩ : ∃ z, z = qac 256 (LW.drop (gh + 1)) := ⟨_, rfl⟩
      obtain ⟨y, hy⟩ : ∃ y, y = qac 256 (LW.drop gh) := ⟨_, rfl⟩
      rw [← hz, ← hy] at hst
      rw [← hy] at hle
      rw [← hz]
      have HY := qh (And.intro hy hst)
      have hzb : 256 * z + x < 9007199254740992 := by omega
      have hg1 : ((gh : Int) + 1 - 1) = gh := by omega
      have hg2 : (0 : Int) ≤ gh := by omega
      have hg3 : (gh : Int) < lw := by omega
      have hw5 : IntKind.u64.wrap (x : Int) = (x : Int) := by rw [IntKind.wrap_u64]; omega
      clear hst hle hz hy hx
      go_wp2_with fail
      go_roundg gh
      case measure => omega
      case rel => exact ⟨by go_num, by omega, by rw [← HY.out.1, HY.out.2]; first | rfl | (congr 1; omega), rfl⟩
end
theorem qe5 {d : DyD} {p : Nat} (h0 : d.num ≠ 0) (hp : qbs d.num.natAbs p) : qaQ d = Ieee.double.word d.neg (qaG (qbc d.num.natAbs d.e (qan p d.e)) (qan p d.e)) := qgO h0 hp
theorem qgx (m : Nat) (q : Int) : qaG m q ≤ qaP := Nat.min_le_right _ _
theorem qgw : qaP < 9223372036854775808 := by decide
set_option maxRecDepth 100000 in
set_option maxHeartbeats 3200000 in
theorem qfN (d : DyD) (w : World) (hd : qad d = true) :
  Calls prog 85 #[.agg #[.bool d.neg, .string d.n, .int .i64 d.e]] w fun en w' => en = .returned (.float .f64 (qaQ d)) ∧ Kept w w' := by
 by_cases h0 : d.num = 0
 ·obtain rfl := (qag hd).2.1 h0
  have HZ := qh (show qaQ zD = 0 by decide)
  rw [HZ.out]
  show Calls prog 85 #[.agg #[.bool false, .string ⟨#[]⟩, .int .i64 0]] w _
  clear h0 hd
  go_enter func85, ntmps85
  go_wp2_with fail
  go_ret
  exact ⟨rfl, Kept.new (Below.refl _ _) _⟩
 ·obtain ⟨p, hp⟩ := qdh d.num.natAbs
  have hne := qe0 (qcG hd h0)
  have TX := qh (fun W => qeB d p W hd h0 hp)
  obtain ⟨T, hT⟩ : ∃ T, T = (p : Int) - 1 + d.e := ⟨_, rfl⟩
  rw [← hT] at TX
  by_cases ht : 1024 ≤ T
  ·have AR := qh (fun W => qke d p W hd h0 hp (by omega))
   have SG := qh (fun W => qg5 d.neg qaP W qgw)
   rw [qh2 h0 hp (by omega)]
   generalize Ieee.double.word d.neg qaP = V at *
   obtain ⟨xn, s, xe⟩ := d
   simp only at hne TX AR SG ⊢
   obtain ⟨hz, hz1⟩ := hne
   clear hd h0 hp hT
   go_enter func85, ntmps85
   go_upto_region 1 with fail
   obtain ⟨b, w1, hw, hb, B0, K1, HB⟩ := qa4 w (LC0 xn s xe) 24
   rw [← hw, ← hb]; clear hw hb
   obtain ⟨c0, c1, c2⟩ := B0.out.c3
   go_wp2_with (first
    | (go_at_call 129; (with_reducible refine (AR.out _).mono ?_); rintro e w3 ⟨⟨a, rfl⟩, hk3⟩; have K3 := qh (K1.out.trans' hk3); obtain ⟨c0, c1, c2⟩ := (B0.out.kept hk3).c3; have B3 := qh (B0.out.kept hk3); clear hk3)
    | (go_at_call 123; (with_reducible refine (TX.out _).mono ?_); rintro e w4 ⟨rfl, hk4⟩; have K4 := qh (K3.out.trans' hk4); obtain ⟨c0, c1, c2⟩ := (B3.out.kept hk4).c3; clear hk4)
    | (go_at_call 130; (with_reducible refine (SG.out _).mono ?_); rintro e w5 ⟨rfl, hw⟩; replace hw := hw.symm; subst hw))
   go_ret
   exact ⟨rfl, K4.out⟩
  ·have AR := qh (fun W => qkn d p W hd h0 hp (by omega))
   have SG := qh (fun (m : Nat) W => qg5 d.neg (qaG m (qan p d.e)) W (Nat.lt_of_le_of_lt (qgx _ _) qgw))
   rw [qe5 h0 hp]
   generalize qbc d.num.natAbs d.e (qan p d.e) = K at *
   generalize qan p d.e = Q at *
   obtain ⟨xn, s, xe⟩ := d
   simp only at hne TX AR SG ⊢
   obtain ⟨hz, hz1⟩ := hne
   clear hd h0 hp hT
   go_enter func85, ntmps85
   go_upto_region 1 with fail
   obtain ⟨b, w1, hw, hb, B0, K1, HB⟩ := qa4 w (LC0 xn s xe) 24
   rw [← hw, ← hb]; clear hw hb
   obtain ⟨c0, c1, c2⟩ := B0.out.c3
   go_upto_region 7 with (first
    | (go_at_call 129; (with_reducible refine (AR.out _).mono ?_); rintro e w3 ⟨m, wh, ev, rfl, hM, hk3⟩; have K3 := qh (K1.out.trans' hk3); obtain ⟨c0, c1, c2⟩ := (B0.out.kept hk3).c3; have B3 := qh (B0.out.kept hk3); have HM := qh hM; clear hk3 hM)
    | (go_at_call 123; (with_reducible refine (TX.out _).mono ?_); rintro e w4 ⟨rfl, hk4⟩; have K4 := qh (K3.out.trans' hk4); obtain ⟨c0, c1, c2⟩ := (B3.out.kept hk4).c3; clear hk4))
   have S1 := qh (SG.out m)
   have S2 := qh (SG.out (m + 1))
   clear AR TX SG
   by_cases h2 : wh < 2
   ·have hM := HM.out
    rw [if_pos (.inl h2)] at hM
    subst hM
    go_wp2_with (go_at_call 130; (with_reducible refine (S1.out _).mono ?_); rintro e w5 ⟨rfl, hw⟩; replace hw := hw.symm; subst hw)
    go_ret
    exact ⟨rfl, K4.out⟩
   ·by_cases h3 : wh = 2
    ·subst h3
     cases ev with
     | true =>
      have hM := HM.out
      rw [if_pos (.inr ⟨rfl, rfl⟩)] at hM
      subst hM
      go_wp2_with (go_at_call 130; (with_reducible refine (S1.out _).mono ?_); rintro e w5 ⟨rfl, hw⟩; replace hw := hw.symm; subst hw)
      go_ret
      exact ⟨rfl, K4.out⟩
     | false =>
      have hM := HM.out
      rw [if_neg (by simp)] at hM
      subst hM
      go_wp2_with (go_at_call 130; (with_reducible refine (S2.out _).mono ?_); rintro e w5 ⟨rfl, hw⟩; replace hw := hw.symm; subst hw)
      go_ret
      exact ⟨rfl, K4.out⟩
    ·have hM := HM.out
     rw [if_neg (by omega)] at hM
     subst hM
     go_wp2_with (go_at_call 130; (with_reducible refine (S2.out _).mono ?_); rintro e w5 ⟨rfl, hw⟩; replace hw := hw.symm; subst hw)
     go_ret
     exact ⟨rfl, K4.out⟩
structure GsD where
 re : DyD
 im : DyD
def zG : GsD := ⟨zD, zD⟩
def gsB (g : GsD) : Bool := qad g.re && qad g.im
theorem qam {g : GsD} : gsB g = true ↔ qad g.re = true ∧ qad g.im = true := by unfold gsB; rw [Bool.and_eq_true]
def qaF (x y : DyD × Int) : GsD × Int := if x.2 = 0 ∧ y.2 = 0 then (⟨x.1, y.1⟩, 0) else (zG, 4)
def qej (a b : GsD) : GsD × Int := qaF (qdG a.re b.re) (qdG a.im b.im)
def twoS (x y : DyD × Int) : DyD × Int := if x.2 = 0 ∧ y.2 = 0 then qaS x.1 y.1 else (zD, 4)
def qbX (g : GsD) : DyD × Int := twoS (mulS g.re g.re) (mulS g.im g.im)
theorem qj {x y : DyD × Int} (hx : qad x.1 = true) (hy : qad y.1 = true) : gsB (qaF x y).1 = true := by
 unfold qaF; split
 ·exact qam.2 ⟨hx, hy⟩
 ·rfl
theorem qn7 {x y : DyD × Int} (hx : qad x.1 = true) (hy : qad y.1 = true) : qad (twoS x y).1 = true := by
 unfold twoS; split
 ·exact qgt hx hy
 ·rfl
theorem qiw {a b : GsD} (ha : gsB a = true) (hb : gsB b = true) : gsB (qej a b).1 = true :=
 qj (qis (qam.1 ha).1 (qam.1 hb).1) (qis (qam.1 ha).2 (qam.1 hb).2)
theorem qgY (g : GsD) : qad (qbX g).1 = true := qn7 (qdm _ _) (qdm _ _)
theorem qeG (x y : DyD × Int) : (qaF x y).2 = 0 ∨ qaF x y = (zG, 4) := by unfold qaF; split; exact .inl rfl; exact .inr rfl
theorem qhg (x y : DyD × Int) : (twoS x y).2 = 0 ∨ twoS x y = (zD, 4) := by unfold twoS; split; exact qem _ _; exact .inr rfl
structure SqD where
 left : DyD
 low : DyD
 e : Int
def sqB (s : SqD) : Bool := qad s.left && (qad s.low && (decide (-4096 ≤ s.e) && decide (s.e ≤ 4096)))
theorem qas {s : SqD} : sqB s = true ↔ qad s.left = true ∧ qad s.low = true ∧ -4096 ≤ s.e ∧ s.e ≤ 4096 := by
 unfold sqB; simp only [Bool.and_eq_true, decide_eq_true_eq]
def ofS (n e : Int) : DyD := (qbh n e).1
def qaM (d : DyD) (n e : Int) : DyD × Int := qaS d (ofS n e)
theorem qoo {n e : Int} (hn : n.natAbs < 4294967296) (h1 : -1000000 ≤ e) (h2 : e ≤ 1000000) : (qbh n e).2 = 0 := by
 unfold qbh
 by_cases h0 : n = 0
 ·rw [if_pos h0]
 ·rw [if_neg h0]
  have h4 := qfI (show n.natAbs ≠ 0 by omega)
  have h5 : tz n.natAbs < 32 := h4.lt (show n.natAbs < 2 ^ 32 from hn)
  rw [if_pos]
  refine ⟨?_, by omega, by omega⟩
  have h6 : n.natAbs / 2 ^ tz n.natAbs ≤ n.natAbs := Nat.div_le_self _ _
  rw [qeh]
  exact qgp (a := 4) (by omega) (by omega)
theorem qou (e : Int) : ofS 2 (e - 1) = ofS 1 e := by
 unfold ofS
 have := qkI 1 (e - 1) 1
 rw [show (1 : Int) * 2 ^ 1 = 2 from rfl] at this
 rw [this, show e - 1 + ((1 : Nat) : Int) = e by omega]
theorem qds {d : DyD} (e : Int) (h : qad d = true) : qaM d 0 e = (d, 0) := by
 unfold qaM ofS
 rw [qcR]
 unfold qaS
 by_cases h0 : d.num = 0
 ·rw [if_pos h0, (qag h).2.1 h0]
 ·rw [if_neg h0, if_pos qoM]
theorem qce {d : DyD} (n e : Int) (h : qad d = true) : qad (qaM d n e).1 = true := qgt h (qeF _ _)
def qaN (s : SqD) : DyD × Int := qaM s.left 1 s.e
def qaZ (s : SqD) : DyD × Int := qaM s.low 1 s.e
def qaA (s : SqD) : Option (List GsD) := if (qaN s).2 = 0 ∧ (qaZ s).2 = 0 then some [⟨s.left, s.low⟩, ⟨(qaN s).1, s.low⟩, ⟨s.left, (qaZ s).1⟩, ⟨(qaN s).1, (qaZ s).1⟩] else none
def qbu (s : SqD) : GsD × Int := qaF (qaM s.left 1 (s.e - 1)) (qaM s.low 1 (s.e - 1))
def qcg (s : SqD) (g : GsD) : Option Bool := if (qaN s).2 = 0 ∧ (qaZ s).2 = 0 then
 some (decide (qbx s.left g.re ≤ 0) && (decide (qbx g.re (qaN s).1 ≤ 0) && (decide (qbx s.low g.im ≤ 0) && decide (qbx g.im (qaZ s).1 ≤ 0)))) else none
def qbp (s : SqD) : Option (List SqD) := if s.e = -4096 then none else if (qbu s).2 = 0 then
 some [⟨s.left, s.low, s.e - 1⟩, ⟨(qbu s).1.re, s.low, s.e - 1⟩, ⟨s.left, (qbu s).1.im, s.e - 1⟩, ⟨(qbu s).1.re, (qbu s).1.im, s.e - 1⟩] else none
def qd0 (c : GsD) : List GsD → DyD → Option DyD
 | [], m => some m
 | g :: l, m => if (qej g c).2 = 0 ∧ (qbX (qej g c).1).2 = 0 then qd0 c l (if 0 < qbx (qbX (qej g c).1).1 m then (qbX (qej g c).1).1 else m) else none
def qbb (n : DyD) (b : Nat) : Bool := decide (0 ≤ qbx (mulS (qa9 b).1 (qa9 b).1).1 n)
def qaO (f : Nat → Bool) : Nat → Nat → Nat → Nat
 | 0, i, _ => i
 | k + 1, i, j => if i < j then (if f ((i + j) / 2) then qaO f k i ((i + j) / 2) else qaO f k ((i + j) / 2 + 1) j) else i
def qbB : Nat := 9218868437227405311
structure BaD where
 re : Nat
 im : Nat
 r : Nat
def qaj (s : SqD) : BaD × Int :=
 match qaA s with
 | none => (⟨0, 0, 0⟩, 4)
 | some l => if (qbu s).2 = 0 then
   (if qbQ (qaQ (qbu s).1.re) && qbQ (qaQ (qbu s).1.im) then
    (match qd0 ⟨(qa9 (qaQ (qbu s).1.re)).1, (qa9 (qaQ (qbu s).1.im)).1⟩ l zD with
    | none => (⟨0, 0, 0⟩, 4)
    | some n => if qbb n qbB then (⟨qaQ (qbu s).1.re, qaQ (qbu s).1.im, qaO (qbb n) 64 0 qbB⟩, 0) else (⟨0, 0, 0⟩, 5))
   else (⟨0, 0, 0⟩, 5))
  else (⟨0, 0, 0⟩, 4)
theorem qoE {s : SqD} (h : sqB s = true) {l : List GsD} (hl : qaA s = some l) : ∀ g ∈ l, gsB g = true := by
 obtain ⟨h1, h2, h3, h4⟩ := qas.1 h
 unfold qaA at hl
 split at hl
 ·cases hl
  have h5 : qad (qaN s).1 = true := qce _ _ h1
  have h6 : qad (qaZ s).1 = true := qce _ _ h2
  intro g hg
  simp only [List.mem_cons, List.not_mem_nil, or_false] at hg
  rcases hg with rfl | rfl | rfl | rfl
  ·exact qam.2 ⟨h1, h2⟩
  ·exact qam.2 ⟨h5, h2⟩
  ·exact qam.2 ⟨h1, h6⟩
  ·exact qam.2 ⟨h5, h6⟩
 ·cases hl
theorem qgu {s : SqD} (h : sqB s = true) : gsB (qbu s).1 = true := qj (qce _ _ (qas.1 h).1) (qce _ _ (qas.1 h).2.1)
theorem qd2 {s : SqD} (h : sqB s = true) {l : List SqD} (hl : qbp s = some l) : l.length = 4 ∧ ∀ q ∈ l, sqB q = true := by
 have hm := qam.1 (qgu h)
 obtain ⟨h1, h2, h3, h4⟩ := qas.1 h
 unfold qbp at hl
 split at hl
 ·cases hl
 ·rename_i hne
  split at hl
  ·cases hl
   refine ⟨rfl, ?_⟩
   intro q hq
   simp only [List.mem_cons, List.not_mem_nil, or_false] at hq
   rcases hq with rfl | rfl | rfl | rfl
   ·exact qas.2 ⟨h1, h2, by show _ ≤ s.e - 1; omega, by show s.e - 1 ≤ _; omega⟩
   ·exact qas.2 ⟨hm.1, h2, by show _ ≤ s.e - 1; omega, by show s.e - 1 ≤ _; omega⟩
   ·exact qas.2 ⟨h1, hm.2, by show _ ≤ s.e - 1; omega, by show s.e - 1 ≤ _; omega⟩
   ·exact qas.2 ⟨hm.1, hm.2, by show _ ≤ s.e - 1; omega, by show s.e - 1 ≤ _; omega⟩
  ·cases hl
end Go.Proofs.YtfdnledkcongaaaGreatDoor
