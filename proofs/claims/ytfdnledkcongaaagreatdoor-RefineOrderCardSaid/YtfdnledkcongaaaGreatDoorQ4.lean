/- Texts of one claim laid together: DyE, DoH, Nea, FltO, FlD, FltE, FloW, DoI, DoJ. -/
import Derived.Test.YtfdnledkcongaaaGreatDoorQ3
import Ieee.Word
import Derived.Laws.ComplexArith
import Derived.WalkKit
import Derived.Laws.Externs
import Derived.IntWalk
import Derived.Test.YtfdnledkcongaaaGreatDoorRows
set_option linter.all false
namespace Go.Proofs.YtfdnledkcongaaaGreatDoor
open Go.RowKit Go.Proofs.Tryz
section
set_option maxHeartbeats 3200000
set_option maxRecDepth 100000
structure KB (w1 W : World) : Prop where
 k : Kept w1 W
theorem KB.on {w1 W W' : World} (h : KB w1 W) (hk : Kept W W') : KB w1 W' := ⟨h.k.trans' hk⟩
theorem qcU {n t k : Nat} (ht : qbs n t) (h1 : n < qjO k) : t ≤ 8 * k := by
 rw [qn1] at h1
 by_cases h2 : t = 0
 ·omega
 ·have h3 := Nat.lt_of_le_of_lt (ht.2 h2) h1
  rw [show (256 : Nat) = 2 ^ 8 by decide, ← Nat.pow_mul] at h3
  have := (Nat.pow_lt_pow_iff_right (show 1 < 2 by omega)).1 h3
  omega
theorem qdh (n : Nat) : ∃ p, qbs n p := by
 by_cases h : n = 0
 ·exact ⟨0, by rw [h]; exact qeI⟩
 ·exact ⟨n.log2 + 1, Nat.lt_log2_self, fun _ => by rw [Nat.add_sub_cancel]; exact Nat.log2_self_le h⟩
theorem qgX (d : DyD) (t : Nat) (w : World) (hd : qad d = true) (h0 : d.num ≠ 0) (ht : qbs d.num.natAbs t) :
  Calls prog 108 #[.agg #[.bool d.neg, .string d.n, .int .i64 d.e]] w fun en w' => en = .returned (.tuple #[.int .i64 ((t : Int) - 1 + d.e), .bool true]) ∧ Kept w w' := by
 have SX := qh (fun W => qcP d W hd)
 have WX := qh (qck d hd)
 have hxe := (qag hd).2.2.2
 have hs1 : ¬ d.num.sign = 0 := fun e => h0 (Int.sign_eq_zero_iff_zero.1 e)
 have BL : Hid (∀ W p, qaq W p d.num 4097 → Calls prog 149 #[.pointer (some ⟨p, 0, none⟩)] W fun e w' => e = .returned (.int .i64 (t : Int)) ∧ w' = W) := fun W p h =>
  (qf1 p d.num 4097 W h (by omega)).mono fun e w' ⟨t', h1, h2, h3, h4⟩ => ⟨by rw [h1, h2.uniq ht], h4⟩
 have ht9 : t ≤ 8 * 16384 := qcU ht (qag hd).1
 obtain ⟨xn, xs, xe⟩ := d
 simp only at SX WX hxe hs1 BL ⊢
 generalize (DyD.mk xn xs xe).num = X at *
 generalize X.sign = sg at *
 obtain ⟨xe0, xe1⟩ := hxe
 have ew : IntKind.i64.wrap ((t : Int) - 1 + xe) = (t : Int) - 1 + xe := IntWalk.i64_in _ (by omega)
 have ew2 : IntKind.i64.wrap ((t : Int) - 1) = (t : Int) - 1 := IntWalk.i64_in _ (by omega)
 clear hd h0 ht
 go_enter func108, ntmps108
 go_upto_region 1 with fail
 obtain ⟨b, w1, hw, hb, B0, K1, HB⟩ := qa4 w (LC0 xn xs xe) 24
 rw [← hw, ← hb]; clear hw hb
 obtain ⟨c0, c1, c2⟩ := B0.out.c3
 go_wp2_with (go_at_call 20; (with_reducible refine (SX.out _).mono ?_); rintro e w4 ⟨rfl, hk4⟩)
 have K4 := qh hk4
 have hS0 := (B0.out.kept (hk4.trans' (Below.refl _ w4).drew)).c3
 refine qab (fun W => W.cell? ⟨b, 0, none⟩ = some (.bool xn) ∧ W.cell? ⟨b, 1, none⟩ = some (.string xs) ∧ W.cell? ⟨b, 2, none⟩ = some (.int .i64 xe)) [7,8] (by kernel_rfl) ?_ (fun hHeld => ?_)
 ·assumption
 refine wS 0 7 ?_
 refine wS 4 11 ?_
 refine wS 5 12 ?_
 refine oS 1 fun K hK => ?_
 go_simp
 (refine (WX.out _).mono ?_; rintro e w5 ⟨p, rfl, hp, ip, hk5⟩; have K5 := qh (K4.out.trans' ((Below.refl _ w4).drew.trans (hk5.mono (Nat.le_refl _)))); have hS5 := (B0.out.kept K5.out).c3; have IP := qh ip)
 refine hK.out _ _ ?_ (fun hHeld => ?_)
 ·assumption
 clear hK K
 try simp only [Act.put, tdy]
 refine oS 2 fun K hK => ?_
 go_simp
 (refine (BL.out _ _ IP.out).mono ?_; rintro e w6 ⟨rfl, hw6⟩; subst hw6)
 refine hK.out _ _ ?_ (fun hHeld => ?_)
 ·assumption
 clear hK K
 try simp only [Act.put, tdy]
 refine wS 3 10 ?_
 refine wS 6 13 ?_
 refine eS 7 fun K hK => ?_
 go_simp
 refine hK.out _ _ ?_
 clear hK K
 try simp only [Act.put, tdy]
 refine eS 8 fun K hK => ?_
 go_simp
 refine hK.out _ _ ?_
 clear hK K
 try simp only [Act.put, tdy]
 refine dS ?_ _
 go_wp2_with fail
 go_ret2
 exact ⟨rfl, K1.out.trans' K5.out⟩
theorem qkV (p r : Nat) (x y : Int) (k j : Nat) (W : World) (hk : k ≤ 100000000) (hj : j ≤ 100000000) (h : qaq W p x k) (h' : qaq W r y j) :
  Calls prog 111 #[.pointer (some ⟨p, 0, none⟩), .pointer (some ⟨r, 0, none⟩)] W fun e w' => e = .returned (.int .i64 (qdA x y)) ∧ Kept W w' := qmP p r x y k j W h h' hk hj
theorem qdr (x y : DyD) (w : World) (hx : qad x = true) (hy : qad y = true) :
  Calls prog 69 #[.agg #[.bool x.neg, .string x.n, .int .i64 x.e], .agg #[.bool y.neg, .string y.n, .int .i64 y.e]] w fun en w' => en = .returned (.tuple #[.int .i64 (qbx x y), .int .i64 0]) ∧ Kept w w' := by
 have ALL := qh (qfr x y hx hy)
 have SX := qh (fun W => qcP x W hx)
 have SY := qh (fun W => qcP y W hy)
 have SG := qh (fun n W => qmL n W)
 by_cases h1 : x.num.sign ≠ y.num.sign ∨ x.num.sign = 0
 ·rw [qhr h1]
  obtain ⟨xn, xs, xe⟩ := x
  obtain ⟨yn, ys, ye⟩ := y
  simp only at ALL SX SY ⊢
  obtain ⟨sg, hsg⟩ : ∃ s, s = (DyD.mk xn xs xe).num.sign := ⟨_, rfl⟩
  obtain ⟨sh, hsh⟩ : ∃ s, s = (DyD.mk yn ys ye).num.sign := ⟨_, rfl⟩
  rw [← hsg] at SX h1 ⊢
  rw [← hsh] at SY h1 ⊢
  have r1 : -1 ≤ sg ∧ sg ≤ 1 := by rw [hsg]; have := Int.sign_trichotomy (DyD.mk xn xs xe).num; omega
  have r2 : -1 ≤ sh ∧ sh ≤ 1 := by rw [hsh]; have := Int.sign_trichotomy (DyD.mk yn ys ye).num; omega
  have ew : IntKind.i64.wrap (sg - sh) = sg - sh := IntWalk.i64_in _ (by omega)
  clear hsg hsh hx hy
  go_enter func69, ntmps69
  go_upto_region 1 with fail
  obtain ⟨b, w1, hw, hb, B0, B1, K1, HB⟩ := qa7 w (LC0 xn xs xe) 24 (LC0 yn ys ye) 24
  rw [← hw, ← hb]; clear hw hb
  obtain ⟨c0, c1, c2⟩ := B0.out.c3
  obtain ⟨d0, d1, d2⟩ := B1.out.c3
  have SK : Hid (∀ W, Kept w1 W → (W.cell? ⟨b, 0, none⟩ = some (.bool xn) ∧ W.cell? ⟨b, 1, none⟩ = some (.string xs) ∧ W.cell? ⟨b, 2, none⟩ = some (.int .i64 xe)) ∧ W.cell? ⟨b + 1, 0, none⟩ = some (.bool yn) ∧ W.cell? ⟨b + 1, 1, none⟩ = some (.string ys) ∧ W.cell? ⟨b + 1, 2, none⟩ = some (.int .i64 ye)) := fun W h => ⟨(B0.out.kept h).c3, (B1.out.kept h).c3⟩
  go_upto_region 3 with (go_at_call 106; (with_reducible refine (ALL.out _ _ ?_).mono ?_); (exact Bx.new _ _ _ _ rfl); rintro e w3 ⟨rfl, hk3⟩; have K3 := qh ((Kept.new (Below.refl _ _) _).trans' hk3); clear hk3)
  clear c0 c1 c2 d0 d1 d2 ALL
  refine wp_region_quiet (C := (KB w1)) (by kernel_rfl) (by kernel_rfl) ?_ ?_
  ·exact ⟨K3.out.trans' (Below.refl _ w3).drew⟩
  dsimp only [List.take]
  refine wQ (some 20) ?_ fun wr hw => (by (obtain ⟨⟨c0, c1, c2⟩, d0, d1, d2⟩ := SK.out _ hw.k); go_simp; (try with_reducible rfl))
  refine qbK (v := ?_) (f := ?_) (args := ?_) (some 21) rfl (by kernel_rfl) (fun wr hw => ?_) (fun wr hw => ?_) ?_
  rotate_left 3
  ·(obtain ⟨⟨c0, c1, c2⟩, d0, d1, d2⟩ := SK.out _ hw.k); go_simp; refine ⟨?_, ?_⟩ <;> with_reducible rfl
  ·refine (SX.out wr).mono ?_; rintro e w' ⟨rfl, hk⟩; refine ⟨?_, hw.on hk⟩; with_reducible rfl
  try simp only [Act.put, tdy]
  refine wQ (some 22) ?_ fun wr hw => (by (obtain ⟨⟨c0, c1, c2⟩, d0, d1, d2⟩ := SK.out _ hw.k); go_simp; (try with_reducible rfl))
  refine qbK (v := ?_) (f := ?_) (args := ?_) (some 23) rfl (by kernel_rfl) (fun wr hw => ?_) (fun wr hw => ?_) ?_
  rotate_left 3
  ·(obtain ⟨⟨c0, c1, c2⟩, d0, d1, d2⟩ := SK.out _ hw.k); go_simp; refine ⟨?_, ?_⟩ <;> with_reducible rfl
  ·refine (SY.out wr).mono ?_; rintro e w' ⟨rfl, hk⟩; refine ⟨?_, hw.on hk⟩; with_reducible rfl
  try simp only [Act.put, tdy]
  refine wQ (some 6) ?_ fun wr hw => (by (obtain ⟨⟨c0, c1, c2⟩, d0, d1, d2⟩ := SK.out _ hw.k); go_simp; (try with_reducible rfl))
  refine wQ (some 7) ?_ fun wr hw => (by (obtain ⟨⟨c0, c1, c2⟩, d0, d1, d2⟩ := SK.out _ hw.k); go_simp; (try with_reducible rfl))
  refine wpQuiet_nil ?_
  intro wq hq
  have K4 := qh hq.k
  rcases h1 with h1 | h1
  ·go_wp2_with (go_at_call 107; (with_reducible refine (SG.out _ _).mono ?_); rintro e w5 ⟨rfl, hw5⟩; subst hw5)
   go_ret2
   exact ⟨rfl, K1.out.trans' K4.out⟩
  ·subst h1
   by_cases h2 : (0 : Int) = sh
   ·subst h2
    go_wp2_with (go_at_call 107; (with_reducible refine (SG.out _ _).mono ?_); rintro e w5 ⟨rfl, hw5⟩; subst hw5)
    go_ret2
    exact ⟨rfl, K1.out.trans' K4.out⟩
   ·go_wp2_with (go_at_call 107; (with_reducible refine (SG.out _ _).mono ?_); rintro e w5 ⟨rfl, hw5⟩; subst hw5)
    go_ret2
    exact ⟨by simp, K1.out.trans' K4.out⟩
 ·have h2 : x.num.sign = y.num.sign := by
   rcases Int.lt_trichotomy x.num.sign y.num.sign with h | h | h
   ·exact absurd (.inl (by omega)) h1
   ·exact h
   ·exact absurd (.inl (by omega)) h1
  have h3 : x.num.sign ≠ 0 := fun e => h1 (.inr e)
  have hx0 : x.num ≠ 0 := fun e => h3 (by rw [e]; rfl)
  have hy0 : y.num ≠ 0 := fun e => h3 (by rw [h2, e]; rfl)
  obtain ⟨p, hp⟩ := qdh x.num.natAbs
  obtain ⟨q, hq⟩ := qdh y.num.natAbs
  have TX := qh (fun W => qgX x p W hx hx0 hp)
  have TY := qh (fun W => qgX y q W hy hy0 hq)
  have WX := qh (qck x hx)
  have WY := qh (qck y hy)
  have hxe := (qag hx).2.2.2
  have hye := (qag hy).2.2.2
  have hp9 : p ≤ 8 * 16384 := qcU hp (qag hx).1
  have hq9 : q ≤ 8 * 16384 := qcU hq (qag hy).1
  have HT := qh (fun h => qjA h2 hx0 hp hq h)
  have HC := qh (show qbx x y = qdA (x.num * 2 ^ (x.e - min x.e y.e).toNat) (y.num * 2 ^ (y.e - min x.e y.e).toNat) from rfl)
  rw [← h2] at SY
  generalize qbx x y = R at *
  obtain ⟨xn, xs, xe⟩ := x
  obtain ⟨yn, ys, ye⟩ := y
  simp only at ALL SX SY TX TY WX WY HT HC hxe hye h3 ⊢
  clear h1 h2 hx0 hy0 hp hq hx hy
  generalize (DyD.mk xn xs xe).num = X at *
  generalize (DyD.mk yn ys ye).num = Y at *
  have r1 : X.sign = -1 ∨ X.sign = 1 := by have := Int.sign_trichotomy X; omega
  generalize X.sign = sg at *
  obtain ⟨xe0, xe1⟩ := hxe
  obtain ⟨ye0, ye1⟩ := hye
  obtain ⟨P, hP⟩ : ∃ P : Int, P = p - 1 + xe := ⟨_, rfl⟩
  obtain ⟨Q, hQ⟩ : ∃ Q : Int, Q = q - 1 + ye := ⟨_, rfl⟩
  rw [← hP] at TX
  rw [← hQ] at TY
  have hP1 : -2000000 ≤ P ∧ P ≤ 2000000 := by omega
  have hQ1 : -2000000 ≤ Q ∧ Q ≤ 2000000 := by omega
  have HT2 : Hid (P ≠ Q → R = sg * (P - Q).sign) := fun h => by
   rw [HT.out (by omega)]
   congr 2; omega
  clear HT hP hQ hp9 hq9
  have e1 : (sg != sg) = false := by simp
  have hsg0 : (sg == 0) = false := by simp; omega
  go_enter func69, ntmps69
  go_upto_region 1 with fail
  obtain ⟨b, w1, hw, hb, B0, B1, K1, HB⟩ := qa7 w (LC0 xn xs xe) 24 (LC0 yn ys ye) 24
  rw [← hw, ← hb]; clear hw hb
  obtain ⟨c0, c1, c2⟩ := B0.out.c3
  obtain ⟨d0, d1, d2⟩ := B1.out.c3
  have SK : Hid (∀ W, Kept w1 W → (W.cell? ⟨b, 0, none⟩ = some (.bool xn) ∧ W.cell? ⟨b, 1, none⟩ = some (.string xs) ∧ W.cell? ⟨b, 2, none⟩ = some (.int .i64 xe)) ∧ W.cell? ⟨b + 1, 0, none⟩ = some (.bool yn) ∧ W.cell? ⟨b + 1, 1, none⟩ = some (.string ys) ∧ W.cell? ⟨b + 1, 2, none⟩ = some (.int .i64 ye)) := fun W h => ⟨(B0.out.kept h).c3, (B1.out.kept h).c3⟩
  go_upto_region 3 with (go_at_call 106; (with_reducible refine (ALL.out _ _ ?_).mono ?_); (exact Bx.new _ _ _ _ rfl); rintro e w3 ⟨rfl, hk3⟩; have K3 := qh ((Kept.new (Below.refl _ _) _).trans' hk3); clear hk3)
  clear c0 c1 c2 d0 d1 d2 ALL
  refine wp_region_quiet (C := (KB w1)) (by kernel_rfl) (by kernel_rfl) ?_ ?_
  ·exact ⟨K3.out.trans' (Below.refl _ w3).drew⟩
  dsimp only [List.take]
  refine wQ (some 20) ?_ fun wr hw => (by (obtain ⟨⟨c0, c1, c2⟩, d0, d1, d2⟩ := SK.out _ hw.k); go_simp; (try with_reducible rfl))
  refine qbK (v := ?_) (f := ?_) (args := ?_) (some 21) rfl (by kernel_rfl) (fun wr hw => ?_) (fun wr hw => ?_) ?_
  rotate_left 3
  ·(obtain ⟨⟨c0, c1, c2⟩, d0, d1, d2⟩ := SK.out _ hw.k); go_simp; refine ⟨?_, ?_⟩ <;> with_reducible rfl
  ·refine (SX.out wr).mono ?_; rintro e w' ⟨rfl, hk⟩; refine ⟨?_, hw.on hk⟩; with_reducible rfl
  try simp only [Act.put, tdy]
  refine wQ (some 22) ?_ fun wr hw => (by (obtain ⟨⟨c0, c1, c2⟩, d0, d1, d2⟩ := SK.out _ hw.k); go_simp; (try with_reducible rfl))
  refine qbK (v := ?_) (f := ?_) (args := ?_) (some 23) rfl (by kernel_rfl) (fun wr hw => ?_) (fun wr hw => ?_) ?_
  rotate_left 3
  ·(obtain ⟨⟨c0, c1, c2⟩, d0, d1, d2⟩ := SK.out _ hw.k); go_simp; refine ⟨?_, ?_⟩ <;> with_reducible rfl
  ·refine (SY.out wr).mono ?_; rintro e w' ⟨rfl, hk⟩; refine ⟨?_, hw.on hk⟩; with_reducible rfl
  try simp only [Act.put, tdy]
  refine wQ (some 6) ?_ fun wr hw => (by (obtain ⟨⟨c0, c1, c2⟩, d0, d1, d2⟩ := SK.out _ hw.k); go_simp; (try with_reducible rfl))
  refine wQ (some 7) ?_ fun wr hw => (by (obtain ⟨⟨c0, c1, c2⟩, d0, d1, d2⟩ := SK.out _ hw.k); go_simp; (try with_reducible rfl))
  refine wpQuiet_nil ?_
  intro wq hq
  have K4 := qh hq.k
  clear SX SY hq K3
  obtain ⟨⟨c0, c1, c2⟩, d0, d1, d2⟩ := SK.out _ K4.out
  by_cases hne : P = Q
  ·subst hne
   obtain ⟨lo, hlo⟩ : ∃ lo, lo = min xe ye := ⟨_, rfl⟩
   have l1 : (if xe < ye then xe else ye) = lo := by rw [hlo]; split <;> omega
   have l3 : (if ye < xe then ye else xe) = lo := by rw [hlo]; split <;> omega
   have b1 : lo ≤ xe := by omega
   have b2 : lo ≤ ye := by omega
   have b4 : -1048576 ≤ lo := by omega
   have b5 : lo ≤ 1048576 := by omega
   obtain ⟨sx, hsx⟩ : ∃ s : Nat, (s : Int) = xe - lo := ⟨(xe - lo).toNat, by omega⟩
   obtain ⟨sy, hsy⟩ : ∃ s : Nat, (s : Int) = ye - lo := ⟨(ye - lo).toNat, by omega⟩
   rw [← hlo, ← hsx, ← hsy, Int.toNat_natCast, Int.toNat_natCast] at HC
   have x9 : sx ≤ 2097152 := by omega
   have y9 : sy ≤ 2097152 := by omega
   have u1 : IntKind.u64.wrap (sx : Int) = sx := by rw [IntKind.wrap_u64]; omega
   have u2 : IntKind.u64.wrap (sy : Int) = sy := by rw [IntKind.wrap_u64]; omega
   have u3 : IntKind.i64.wrap (xe - lo) = sx := by rw [IntWalk.i64_in _ (by omega), hsx]
   have u4 : IntKind.i64.wrap (ye - lo) = sy := by rw [IntWalk.i64_in _ (by omega), hsy]
   have u5 : IntKind.i64.wrap (sx : Int) = sx := IntWalk.i64_in _ (by omega)
   have u6 : IntKind.i64.wrap (sy : Int) = sy := IntWalk.i64_in _ (by omega)
   replace hlo := hlo.symm
   replace hsx := hsx.symm
   replace hsy := hsy.symm
   go_upto_region 11 with (first
    | (go_at_call 108; (with_reducible refine (TX.out _).mono ?_); rintro e w5 ⟨rfl, hk5⟩; have K5 := qh (K4.out.trans' hk5); obtain ⟨⟨c0, c1, c2⟩, d0, d1, d2⟩ := SK.out _ K5.out)
    | (go_at_call 108; (with_reducible refine (TY.out _).mono ?_); rintro e w6 ⟨rfl, hk6⟩; have K6 := qh (K5.out.trans' hk6); obtain ⟨⟨c0, c1, c2⟩, d0, d1, d2⟩ := SK.out _ K6.out))
   clear TX TY K4 K5 hk5 hk6 HT2
   go_upto_region 12 with (go_at_call 109; (with_reducible refine (WX.out _).mono ?_); rintro e w7 ⟨p, rfl, hp, ip, hk7⟩)
   have K7 := qh (K6.out.trans' hk7)
   have hp1 := qh (Nat.le_trans K6.out.size hp)
   obtain ⟨⟨c0, c1, c2⟩, d0, d1, d2⟩ := SK.out _ K7.out
   have IP := qh ip
   clear WX hk7 hp ip K6
   go_upto_region 13 with (go_at_call 109; (with_reducible refine (WY.out _).mono ?_); rintro e w8 ⟨q, rfl, hq, iq, hk8⟩)
   have K8 := qh (K7.out.trans' hk8)
   have hne : p ≠ q := by have := IP.out.lt; omega
   have hne' : q ≠ p := fun e => hne e.symm
   have hq1 := qh (Nat.le_trans K7.out.size hq)
   have K8d := qh (K8.out.trans' (Below.refl _ w8).drew)
   have IP8 := qh (IP.out.kept (hk8.trans' (Below.refl _ w8).drew))
   have IQ8 := qh (iq.kept (Below.refl _ w8).drew)
   have hS0 := SK.out _ K8d.out
   clear WY hk8 hq iq K7 IP c0 c1 c2 d0 d1 d2
   have LX : Hid (∀ W, qaq W p X 4097 → Calls prog 110 #[.pointer (some ⟨p, 0, none⟩), .pointer (some ⟨p, 0, none⟩), .int .u64 (sx : Int)] W fun e w' => e = .returned (.pointer (some ⟨p, 0, none⟩)) ∧ qaq w' p (X * 2 ^ sx) 100000 ∧ W.grownBy w' (some p)) := fun W h =>
    (qfA p X 4097 sx W (by omega) (by omega) h).mono fun e w' ⟨h1, h2, h3⟩ => ⟨h1, h2.more (by omega), h3⟩
   have LY : Hid (∀ W, qaq W q Y 4097 → Calls prog 110 #[.pointer (some ⟨q, 0, none⟩), .pointer (some ⟨q, 0, none⟩), .int .u64 (sy : Int)] W fun e w' => e = .returned (.pointer (some ⟨q, 0, none⟩)) ∧ qaq w' q (Y * 2 ^ sy) 100000 ∧ W.grownBy w' (some q)) := fun W h =>
    (qfA q Y 4097 sy W (by omega) (by omega) h).mono fun e w' ⟨h1, h2, h3⟩ => ⟨h1, h2.more (by omega), h3⟩
   have CMP : Hid (∀ W, qaq W p (X * 2 ^ sx) 100000 → qaq W q (Y * 2 ^ sy) 100000 → Calls prog 111 #[.pointer (some ⟨p, 0, none⟩), .pointer (some ⟨q, 0, none⟩)] W fun e w' => e = .returned (.int .i64 R) ∧ Kept W w') := fun W h h' => by
    rw [HC.out]; exact qkV p q _ _ 100000 100000 W (by omega) (by omega) h h'
   refine qab (fun W => (W.cell? ⟨b, 0, none⟩ = some (.bool xn) ∧ W.cell? ⟨b, 1, none⟩ = some (.string xs) ∧ W.cell? ⟨b, 2, none⟩ = some (.int .i64 xe)) ∧ W.cell? ⟨b + 1, 0, none⟩ = some (.bool yn) ∧ W.cell? ⟨b + 1, 1, none⟩ = some (.string ys) ∧ W.cell? ⟨b + 1, 2, none⟩ = some (.int .i64 ye)) [17,18] (by kernel_rfl) ?_ (fun hHeld => ?_)
   ·assumption
   refine wS 0 63 ?_
   refine wS 1 64 ?_
   refine wS 2 65 ?_
   refine wS 3 66 ?_
   refine wS 4 67 ?_
   refine wS 5 68 ?_
   refine wS 6 69 ?_
   refine wS 8 71 ?_
   refine wS 9 72 ?_
   refine wS 10 73 ?_
   refine wS 11 74 ?_
   refine wS 12 75 ?_
   refine wS 13 76 ?_
   refine wS 14 77 ?_
   refine oS 7 fun K hK => ?_
   go_simp
   (refine (LX.out _ IP8.out).mono ?_; rintro e w9 ⟨rfl, ip, hg9⟩; have K9 := qh (qaB K8d.out hp1.out hg9); have hS9 := SK.out _ K9.out; have IQ9 := qh (IQ8.out.grown IP8.out hg9 hne'); have IP9 := qh ip)
   refine hK.out _ _ ?_ (fun hHeld => ?_)
   ·assumption
   clear hK K
   try simp only [Act.put, tdy]
   refine oS 15 fun K hK => ?_
   go_simp
   (refine (LY.out _ IQ9.out).mono ?_; rintro e w10 ⟨rfl, iq, hg10⟩; have K10 := qh (qaB K9.out hq1.out hg10); have hS10 := SK.out _ K10.out; have IP10 := qh (IP9.out.grown IQ9.out hg10 hne); have IQ10 := qh iq)
   refine hK.out _ _ ?_ (fun hHeld => ?_)
   ·assumption
   clear hK K
   try simp only [Act.put, tdy]
   refine oS 16 fun K hK => ?_
   go_simp
   (refine (CMP.out _ IP10.out IQ10.out).mono ?_; rintro e w11 ⟨rfl, hk11⟩; have K11 := qh (K10.out.trans' hk11); have hS11 := SK.out _ K11.out)
   refine hK.out _ _ ?_ (fun hHeld => ?_)
   ·assumption
   clear hK K
   try simp only [Act.put, tdy]
   refine eS 17 fun K hK => ?_
   go_simp
   refine hK.out _ _ ?_
   clear hK K
   try simp only [Act.put, tdy]
   refine eS 18 fun K hK => ?_
   go_simp
   refine hK.out _ _ ?_
   clear hK K
   try simp only [Act.put, tdy]
   refine dS ?_ _
   go_wp2_with fail
   go_ret2
   exact ⟨rfl, K1.out.trans' K11.out⟩
  ·have HR := qh (HT2.out hne)
   have ew : IntKind.i64.wrap (P - Q) = P - Q := IntWalk.i64_in _ (by omega)
   obtain ⟨S, hS⟩ : ∃ S, S = (P - Q).sign := ⟨_, rfl⟩
   have hS1 : -1 ≤ S ∧ S ≤ 1 := by rw [hS]; have := Int.sign_trichotomy (P - Q); omega
   rw [← hS] at HR
   have SG2 : Hid (∀ W, Calls prog 107 #[.int .i64 (P - Q)] W fun en w' => en = .returned (.int .i64 S) ∧ w' = W) := fun W => by rw [hS]; exact SG.out _ W
   have ew2 : IntKind.i64.wrap (sg * S) = sg * S := IntWalk.i64_in _ (by rcases r1 with rfl | rfl <;> omega)
   clear hS
   go_wp2_with (first
    | (go_at_call 108; (with_reducible refine (TX.out _).mono ?_); rintro e w5 ⟨rfl, hk5⟩; have K5 := qh (K4.out.trans' hk5); obtain ⟨⟨c0, c1, c2⟩, d0, d1, d2⟩ := SK.out _ K5.out)
    | (go_at_call 108; (with_reducible refine (TY.out _).mono ?_); rintro e w6 ⟨rfl, hk6⟩; have K6 := qh (K5.out.trans' hk6))
    | (go_at_call 107; (with_reducible refine (SG2.out _).mono ?_); rintro e w7 ⟨rfl, hw7⟩; subst hw7))
   go_ret2
   exact ⟨by rw [HR.out]; rfl, K1.out.trans' K6.out⟩
end
section
set_option maxHeartbeats 1600000
set_option maxRecDepth 100000
theorem qdW (d : DyD) (w : World) (hd : d.ok) : Calls prog 73 #[.agg #[.bool d.neg, .string d.n, .int .i64 d.e]] w fun e w' => e = .returned (.bool (qad d)) ∧ Kept w w' := by
 obtain ⟨neg, s, x⟩ := d
 obtain ⟨hs, hx0, hx1⟩ := hd
 simp only at hs hx0 hx1 ⊢
 by_cases h0 : s.size = 0
 ·have hE := qcW s h0
  subst hE
  by_cases hx : x = 0
  ·subst hx
   cases neg with
   | false =>
    go_enter func73, ntmps73
    go_wp2
    go_ret
    exact ⟨rfl, Kept.new (Below.refl _ _) _⟩
   | true =>
    go_enter func73, ntmps73
    go_wp2
    go_ret
    exact ⟨rfl, Kept.new (Below.refl _ _) _⟩
  ·have HX := qh hx
   go_enter func73, ntmps73
   go_wp2
   go_ret
   exact ⟨qby (by simp [qad, HX.out]), Kept.new (Below.refl _ _) _⟩
 ·have hp : 0 < s.size := by omega
  have hd0 : s.data.toList ≠ [] := by
   intro h; exact h0 (by rw [← ByteArray.size_data, ← Array.length_toList, h]; rfl)
  have hz : s.toList = [] ↔ False := by
   rw [Lib.toList_data]
   exact ⟨fun h => hd0 h, False.elim⟩
  have hz1 : s.toList.isEmpty = false := by
   cases h : s.toList with
   | nil => exact (hz.1 h).elim
   | cons x l => rfl
  have hne : s ≠ ⟨#[]⟩ := fun h => h0 (by rw [h]; rfl)
  have hpI : (0 : Int) < s.size := by omega
  have k1 : (0 : Int) ≤ (s.size : Int) - 1 := by omega
  have k2 : (s.size : Int) - 1 < s.size := by omega
  have k3 : ((s.size : Int) - 1).toNat = s.size - 1 := by omega
  have k4 : IntKind.i64.wrap ((s.size : Int) - 1) = (s.size : Int) - 1 := IntWalk.i64_in _ (by unfold maxLen at hs; omega)
  have k5 : s.size - 1 < s.size := by omega
  have HD : Hid (qad ⟨neg, s, x⟩ = (decide (s.size ≤ 16384) && (decide (s[0] ≠ 0) && (decide ((s[s.size - 1]'k5).toNat % 2 = 1) && (decide (-1048576 ≤ x) && decide (x ≤ 1048576)))))) := by
   have hlen : s.data.toList.length = s.size := by rw [Array.length_toList, ByteArray.size_data]
   show _ = _
   rw [Bool.eq_iff_iff]
   simp [qad, qfM, hd0, qhv s hp, head_data s hp, hlen, and_assoc]
  obtain ⟨y, hy⟩ : ∃ y, s[s.size - 1]'k5 = y := ⟨_, rfl⟩
  obtain ⟨u, hu⟩ : ∃ u, s[0] = u := ⟨_, rfl⟩
  rw [hy, hu] at HD
  by_cases a1 : s.size ≤ 16384
  ·have i1 : (s.size : Int) ≤ 16384 := by omega
   by_cases a2 : u = 0
   ·subst a2
    go_enter func73, ntmps73
    go_wp2_with fail
    go_ret
    exact ⟨qby (by rw [HD.out]; simp), Kept.new (Below.refl _ _) _⟩
   ·have i2 : ((u.toNat : Int) == 0) = false := by
     rw [beq_eq_false_iff_ne]; intro h
     exact a2 (UInt8.toNat_inj.1 (by simpa using h))
    have i2' : ¬ (u.toNat : Int) = 0 := by simpa using i2
    have i4 : ((u.toNat : Int) != 0) = true := by simpa using i2'
    have hyb := y.toNat_lt
    obtain ⟨n, hn⟩ : ∃ n, n = y.toNat := ⟨_, rfl⟩
    have HA := qh a2
    by_cases a3 : y.toNat % 2 = 1
    ·have i3 : (y.toNat : Int) % 2 = 1 := by omega
     by_cases a4 : -1048576 ≤ x
     ·by_cases a5 : x ≤ 1048576
      ·go_enter func73, ntmps73
       go_wp2_with fail
       go_ret
       exact ⟨qby (by rw [HD.out]; rw [decide_eq_true HA.out]; simp [a1, a3, a4, a5]; try omega), Kept.new (Below.refl _ _) _⟩
      ·go_enter func73, ntmps73
       go_wp2_with fail
       go_ret
       exact ⟨qby (by rw [HD.out]; simp; omega), Kept.new (Below.refl _ _) _⟩
     ·go_enter func73, ntmps73
      go_wp2_with fail
      go_ret
      exact ⟨qby (by rw [HD.out]; simp; omega), Kept.new (Below.refl _ _) _⟩
    ·have i3 : ¬ (y.toNat : Int) % 2 = 1 := by omega
     go_enter func73, ntmps73
     go_wp2_with fail
     go_ret
     exact ⟨qby (by rw [HD.out]; simp; omega), Kept.new (Below.refl _ _) _⟩
  ·have i1 : ¬ (s.size : Int) ≤ 16384 := by omega
   go_enter func73, ntmps73
   go_wp2_with fail
   go_ret
   exact ⟨qby (by rw [HD.out]; simp; omega), Kept.new (Below.refl _ _) _⟩
theorem qh1 (d : DyD) (w : World) (hd : qad d = true) : Calls prog 122 #[.agg #[.bool d.neg, .string d.n, .int .i64 d.e]] w fun en w' => en = .returned (.int .i64 d.num.sign) ∧ Kept w w' := by
 by_cases h0 : d.num = 0
 ·obtain rfl := (qag hd).2.1 h0
  show Calls prog 122 #[.agg #[.bool false, .string ⟨#[]⟩, .int .i64 0]] w fun en w' => en = .returned (.int .i64 0) ∧ Kept w w'
  go_enter func122, ntmps122
  go_wp2_with fail
  go_ret
  exact ⟨rfl, Kept.new (Below.refl _ _) _⟩
 ·have hne := qcG hd h0
  have hneg := qcp hd
  have HS := qh (show d.num.sign = if d.neg then -1 else 1 by
   rw [hneg]
   rcases Int.lt_trichotomy d.num 0 with h | h | h
   ·rw [Int.sign_eq_neg_one_of_neg h, decide_eq_true h]; rfl
   ·exact absurd h h0
   ·rw [Int.sign_eq_one_of_pos h, decide_eq_false (by omega)]; rfl)
  rw [HS.out]
  obtain ⟨neg, s, x⟩ := d
  simp only at hne ⊢
  have hd0 : s.data.toList ≠ [] := fun h => hne ((qbG s).1 h)
  have hz : s.toList = [] ↔ False := by
   rw [Lib.toList_data]
   exact ⟨fun h => hd0 h, False.elim⟩
  have hz1 : s.toList.isEmpty = false := by
   cases h : s.toList with
   | nil => exact (hz.1 h).elim
   | cons x l => rfl
  clear HS hneg h0 hd hd0
  cases neg with
  | false =>
   go_enter func122, ntmps122
   go_wp2_with fail
   go_ret
   exact ⟨rfl, Kept.new (Below.refl _ _) _⟩
  | true =>
   go_enter func122, ntmps122
   go_wp2_with fail
   go_ret
   exact ⟨rfl, Kept.new (Below.refl _ _) _⟩
theorem qhj (d : DyD) (w : World) (hd : qad d = true) : Calls prog 159 #[.agg #[.bool d.neg, .string d.n, .int .i64 d.e]] w fun en w' => en = .returned (dyV (negS d)) ∧ Kept w w' := by
 by_cases h0 : d.num = 0
 ·obtain rfl := (qag hd).2.1 h0
  show Calls prog 159 #[.agg #[.bool false, .string ⟨#[]⟩, .int .i64 0]] w fun en w' => en = .returned (dyV zD) ∧ Kept w w'
  go_enter func159, ntmps159
  go_upto_region 1 with fail
  obtain ⟨b, w1, hw, hb, B0, B1, K1, HB⟩ := qa7 w (LC0 false ⟨#[]⟩ 0) 24 (LC0 false ⟨#[]⟩ 0) 24
  rw [← hw, ← hb]; clear hw hb
  obtain ⟨c0, c1, c2⟩ := B0.out.c3
  obtain ⟨d0, d1, d2⟩ := B1.out.c3
  obtain ⟨f0, f1, f2⟩ := B1.out.f3
  go_wp2_with fail
  exact bodyPost_ret (v := dyV zD) (by simp [results, results159, go_sem, d0, d1, d2, dyV, zD]) rfl ⟨rfl, K1.out.qaL (by have := HB.out; omega) _ _ _⟩
 ·have hne := qcG hd h0
  have HS := qh (show negS d = ⟨!d.neg, d.n, d.e⟩ by unfold negS; rw [if_neg h0])
  rw [HS.out]
  obtain ⟨neg, s, x⟩ := d
  simp only at hne ⊢
  have hd0 : s.data.toList ≠ [] := fun h => hne ((qbG s).1 h)
  have hz : s.toList = [] ↔ False := by
   rw [Lib.toList_data]
   exact ⟨fun h => hd0 h, False.elim⟩
  have hz1 : s.toList.isEmpty = false := by
   cases h : s.toList with
   | nil => exact (hz.1 h).elim
   | cons x l => rfl
  clear HS h0 hd hd0
  go_enter func159, ntmps159
  go_upto_region 1 with fail
  obtain ⟨b, w1, hw, hb, B0, B1, K1, HB⟩ := qa7 w (LC0 neg s x) 24 (LC0 false ⟨#[]⟩ 0) 24
  rw [← hw, ← hb]; clear hw hb
  obtain ⟨c0, c1, c2⟩ := B0.out.c3
  obtain ⟨e0, e1, e2⟩ := B0.out.f3
  obtain ⟨d0, d1, d2⟩ := B1.out.c3
  obtain ⟨f0, f1, f2⟩ := B1.out.f3
  go_wp2_with fail
  exact bodyPost_ret (v := dyV ⟨!neg, s, x⟩) (by simp [results, results159, go_sem, d0, d1, d2, dyV]) rfl ⟨rfl, (K1.out.set HB.out _ _).qaL (by have := HB.out; omega) _ _ _⟩
theorem qmw {d : DyD} (h : qad d = true) : d.n.data.toList.head? ≠ some 0 := by
 rcases qdH h with rfl | ⟨h1, -⟩
 ·decide
 ·exact h1
theorem qkr {d : DyD} (hd : qad d = true) (w : World) : Calls prog 124 #[.string d.n] w fun e w' => ∃ A c l, e = .returned (.slice A l.length c) ∧ l.length ≤ c ∧ l.length ≤ 16384 ∧ Row w' A (qaU l) ∧ D8 l d.num.natAbs ∧ Kept w w' := by
 have hs := qdx hd
 refine (qkR d.n w (by omega)).mono ?_
 rintro e w' ⟨v, rfl, ho, hk⟩
 obtain ⟨A, c, rfl, hnc, hcm, hrow, -, -⟩ := ho.form
 have hl := qe4 d.n
 exact ⟨A, c, ofL d.n, by rw [hl], by omega, by omega, hrow, by rw [qdS]; exact qk2 (qmw hd), hk⟩
theorem qhB (neg : Bool) (n : Nat) (z e : Int) (w : World) (hn : n < 18446744073709551616) (hz : z.natAbs = n) (hneg : z ≠ 0 → neg = decide (z < 0)) (he : e.natAbs ≤ 1000000000) :
  Calls prog 156 (LC0 neg (qa8 n) e).toArray w fun en w' => en = .returned (qaf (qbh z e)) ∧ Kept w w' := by
 have hsz : (qa8 n).size ≤ 8 := (qgH n 8).2 hn
 have hh : (qa8 n).data.toList.head? ≠ some 0 := by
  show (qay n).toArray.toList.head? ≠ some 0
  rw [List.toList_toArray]; exact qgd n
 have OF : Hid (∀ W, Kept w W → Calls prog 124 #[.string (qa8 n)] W fun e w' => ∃ A c l, e = .returned (.slice A l.length c) ∧ l.length ≤ c ∧ l.length ≤ 8 ∧ Row w' A (qaU l) ∧ D8 l n ∧ Kept W w') := fun W hk => by
  refine (qkR (qa8 n) W (by omega)).mono ?_
  rintro e w' ⟨v, rfl, ho, hk⟩
  obtain ⟨A, c, rfl, hnc, hcm, hrow, -, -⟩ := ho.form
  have hl := qe4 (qa8 n)
  have hv := qk2 hh
  rw [qgi] at hv
  exact ⟨A, c, ofL (qa8 n), by rw [hl], by omega, by omega, hrow, hv, hk⟩
 have FIT : Hid (∀ W A c (l : List Nat), l.length ≤ 8 → l.length ≤ c → Row W A (qaU l) → D8 l n → Calls prog 135 #[.bool neg, .slice A l.length c, .int .i64 e] W fun en w' => en = .returned (qaf (qbh z e)) ∧ Kept W w') := fun W A c l h1 h2 h3 h4 =>
  qju neg A c l n z e W (by omega) h3 h2 h4 hz hneg he
 generalize qbh z e = R at *
 have hgo : (qa8 n).size = 0 ∨ (0 < (qa8 n).size ∧ ∃ u : UInt8, (qa8 n).data.toList.head? = some u ∧ ((u.toNat : Int) == 0) = false) := by
  by_cases h : (qa8 n).size = 0
  ·exact .inl h
  ·refine .inr ⟨by omega, _, head_data _ (by omega), ?_⟩
   rw [head_data _ (by omega)] at hh
   rw [beq_eq_false_iff_ne]; intro e
   exact hh (by congr 1; exact UInt8.toNat_inj.1 (by simpa using e))
 generalize qa8 n = s at *
 clear hn hz hneg hh
 rcases hgo with h0 | ⟨hp, u, hu, hu0⟩
 ·have hE := qcW s h0
  subst hE
  go_enter func156, ntmps156
  go_upto_region 1 with fail
  obtain ⟨b, w1, hw, hb, B0, K1, HB⟩ := qa4 w (LC0 false ⟨#[]⟩ 0) 24
  rw [← hw, ← hb]; clear hw hb
  go_wp2_with (first
   | (go_at_call 124; (with_reducible refine (OF.out _ K1.out).mono ?_); rintro e w2 ⟨A, c, l, rfl, h1, h2, h3, h4, hk2⟩; have F1 := qh (FIT.out w2 A c l h2 h1 h3 h4); clear h3 h4 h1 h2)
   | (go_at_call 135; (with_reducible refine F1.out.mono ?_); rintro e w3 ⟨rfl, hk3⟩; have K3 := qh ((K1.out.trans' hk2).trans' hk3); have B3 := qh ((B0.out.kept hk2).kept hk3); obtain ⟨c0, c1, c2⟩ := B3.out.c3; obtain ⟨f0, f1, f2⟩ := B3.out.f3))
  exact bodyPost_ret (v := qaf R) (by simp [results, results156, go_sem, c0, c1, c2, qaf]) rfl ⟨rfl, K3.out.qaL HB.out _ _ _⟩
 ·have hs0 : s[0] = u := by
   have := head_data s hp
   rw [hu] at this; exact (Option.some.inj this).symm
  have hpI : (0 : Int) < s.size := by omega
  have h16 : ¬ (16384 : Int) < s.size := by omega
  have HU := qh hu
  clear hu
  go_enter func156, ntmps156
  go_upto_region 1 with fail
  obtain ⟨b, w1, hw, hb, B0, K1, HB⟩ := qa4 w (LC0 false ⟨#[]⟩ 0) 24
  rw [← hw, ← hb]; clear hw hb
  go_wp2_with (first
   | (go_at_call 124; (with_reducible refine (OF.out _ K1.out).mono ?_); rintro e w2 ⟨A, c, l, rfl, h1, h2, h3, h4, hk2⟩; have F1 := qh (FIT.out w2 A c l h2 h1 h3 h4); clear h3 h4 h1 h2)
   | (go_at_call 135; (with_reducible refine F1.out.mono ?_); rintro e w3 ⟨rfl, hk3⟩; have K3 := qh ((K1.out.trans' hk2).trans' hk3); have B3 := qh ((B0.out.kept hk2).kept hk3); obtain ⟨c0, c1, c2⟩ := B3.out.c3; obtain ⟨f0, f1, f2⟩ := B3.out.f3))
  exact bodyPost_ret (v := qaf R) (by simp [results, results156, go_sem, c0, c1, c2, qaf]) rfl ⟨rfl, K3.out.qaL HB.out _ _ _⟩
end
def qfk (n b : Nat) : Nat := n / 2 ^ b + (if 2 ^ b < 2 * (n % 2 ^ b) ∨ (2 ^ b = 2 * (n % 2 ^ b) ∧ n / 2 ^ b % 2 = 1) then 1 else 0)
theorem qmH (neg : Bool) (n : Nat) : Ieee.Toward.cut .even neg n 0 = n := by
 unfold Ieee.Toward.cut
 simp [Nat.mod_one]
theorem qlf {n p : Nat} (h : qbs n p) (h0 : n ≠ 0) : p = n.log2 + 1 := by
 have hp : p ≠ 0 := by rintro rfl; have := h.1; simp at this; exact h0 this
 refine h.uniq ⟨Nat.lt_log2_self, fun _ => ?_⟩
 rw [Nat.add_sub_cancel]
 exact Nat.log2_self_le h0
theorem qn2 (neg : Bool) (n b : Nat) : Ieee.Toward.cut .even neg n b = qfk n b := by
 unfold Ieee.Toward.cut qfk
 simp only [Nat.one_shiftLeft]
 have hn : n < 2 ^ (n.log2 + 1) := Nat.lt_log2_self
 by_cases hb : b ≤ n.log2 + 2
 ·rw [Nat.min_eq_left hb]
  congr 1
  by_cases h : 2 ^ b < 2 * (n % 2 ^ b) ∨ (2 ^ b = 2 * (n % 2 ^ b) ∧ n / 2 ^ b % 2 = 1)
  ·rw [if_pos h]
   have : (decide (2 ^ b < 2 * (n % 2 ^ b)) || (2 ^ b == 2 * (n % 2 ^ b) && n / 2 ^ b % 2 == 1)) = true := by
    simpa only [Bool.or_eq_true, decide_eq_true_eq, Bool.and_eq_true, beq_iff_eq] using h
   rw [this]; rfl
  ·rw [if_neg h]
   have : (decide (2 ^ b < 2 * (n % 2 ^ b)) || (2 ^ b == 2 * (n % 2 ^ b) && n / 2 ^ b % 2 == 1)) = false := by
    rw [Bool.eq_false_iff]
    intro e
    exact h (by simpa only [Bool.or_eq_true, decide_eq_true_eq, Bool.and_eq_true, beq_iff_eq] using e)
   rw [this]; rfl
 ·rw [Nat.min_eq_right (by omega)]
  have h1 : 2 ^ (n.log2 + 2) = 2 * 2 ^ (n.log2 + 1) := by rw [Nat.pow_succ 2 (n.log2 + 1)]; omega
  have h2 : 2 ^ (n.log2 + 2) ≤ 2 ^ b := Nat.pow_le_pow_right (by omega) (by omega)
  rw [Nat.div_eq_of_lt (show n < 2 ^ (n.log2 + 2) by omega), Nat.mod_eq_of_lt (show n < 2 ^ (n.log2 + 2) by omega), Nat.div_eq_of_lt (show n < 2 ^ b by omega), Nat.mod_eq_of_lt (show n < 2 ^ b by omega), if_neg (by omega)]
  have : (decide (2 ^ (n.log2 + 2) < 2 * n) || (2 ^ (n.log2 + 2) == 2 * n && 0 % 2 == 1)) = false := by
   simp; omega
  rw [this]; rfl
def qan (p : Nat) (e : Int) : Int := max ((p : Int) - 1 + e - 52) (-1074)
def qaP : Nat := 9218868437227405312
def qbc (n : Nat) (e : Int) (q : Int) : Nat := if q ≤ e then n * 2 ^ (e - q).toNat else qfk n (q - e).toNat
def qaQ (d : DyD) : Nat := Ieee.double.nearest d.neg d.num.natAbs d.e
theorem qnj : Ieee.double.leastPlace = -1074 := by decide
theorem qee : Ieee.double.infRung = qaP := by decide
theorem qmu : Ieee.double.binade = 4503599627370496 := by decide
theorem qe8 (neg : Bool) {n p : Nat} (e : Int) (h0 : n ≠ 0) (hp : qbs n p) :
  Ieee.double.nearest neg n e = Ieee.double.word neg (min ((qan p e + 1074).toNat * 4503599627370496 + qbc n e (qan p e)) qaP) := by
 unfold Ieee.Format.nearest
 rw [if_neg h0]
 simp only [qnj, qee, qmu]
 have h1 : max (e + (n.log2 : Int) - (Ieee.double.fractionBits : Int)) (-1074) = qan p e := by
  unfold qan
  rw [qlf hp h0, show (Ieee.double.fractionBits : Int) = 52 from rfl]
  congr 1; omega
 rw [h1]
 have h2 : Ieee.Toward.cut .even neg (n <<< (e - qan p e).toNat) (qan p e - e).toNat = qbc n e (qan p e) := by
  unfold qbc
  rw [Nat.shiftLeft_eq]
  split
  ·rename_i h
   rw [show (qan p e - e).toNat = 0 by omega, qmH]
  ·rename_i h
   rw [show (e - qan p e).toNat = 0 by omega, Nat.pow_zero, Nat.mul_one, qn2]
 rw [h2, show qan p e - -1074 = qan p e + 1074 by omega]
theorem qgO {d : DyD} {p : Nat} (h0 : d.num ≠ 0) (hp : qbs d.num.natAbs p) : qaQ d = Ieee.double.word d.neg (min ((qan p d.e + 1074).toNat * 4503599627370496 + qbc d.num.natAbs d.e (qan p d.e)) qaP) := qe8 d.neg d.e (by omega) hp
theorem qoA {n b k : Nat} (h : n < 2 ^ (b + k)) : qfk n b ≤ 2 ^ k := by
 unfold qfk
 have h1 : n / 2 ^ b < 2 ^ k := by
  rw [Nat.div_lt_iff_lt_mul (Nat.pow_pos (by omega)), ← Nat.pow_add, Nat.add_comm]; exact h
 split <;> omega
theorem qjt {n p : Nat} (e : Int) (hp : qbs n p) : qbc n e (qan p e) ≤ 9007199254740992 := by
 unfold qbc
 have hl : qan p e = max ((p : Int) - 1 + e - 52) (-1074) := rfl
 split
 ·rename_i h
  have h1 : n * 2 ^ (e - qan p e).toNat < 2 ^ p * 2 ^ (e - qan p e).toNat := Nat.mul_lt_mul_of_pos_right hp.1 (Nat.pow_pos (by omega))
  rw [← Nat.pow_add] at h1
  have h2 : 2 ^ (p + (e - qan p e).toNat) ≤ 2 ^ 53 := Nat.pow_le_pow_right (by omega) (by omega)
  omega
 ·rename_i h
  have h1 : n < 2 ^ ((qan p e - e).toNat + 53) := Nat.lt_of_lt_of_le hp.1 (Nat.pow_le_pow_right (by omega) (by omega))
  exact qoA h1
theorem qi7 {n p : Nat} (e : Int) (h0 : n ≠ 0) (hp : qbs n p) (hq : -1074 < qan p e) : 4503599627370496 ≤ qbc n e (qan p e) := by
 have hl : qan p e = (p : Int) - 1 + e - 52 := by
  have : qan p e = max ((p : Int) - 1 + e - 52) (-1074) := rfl
  omega
 have hp0 : p ≠ 0 := by rintro rfl; have := hp.1; simp at this; exact h0 this
 have h3 := hp.2 hp0
 unfold qbc
 split
 ·rename_i h
  have h1 : 2 ^ (p - 1) * 2 ^ (e - qan p e).toNat ≤ n * 2 ^ (e - qan p e).toNat := Nat.mul_le_mul_right _ h3
  rw [← Nat.pow_add, show p - 1 + (e - qan p e).toNat = 52 by omega] at h1
  exact h1
 ·rename_i h
  have h1 : 2 ^ (p - 1) / 2 ^ (qan p e - e).toNat ≤ n / 2 ^ (qan p e - e).toNat := Nat.div_le_div_right h3
  rw [Nat.pow_div (by omega) (by omega), show p - 1 - (qan p e - e).toNat = 52 by omega] at h1
  unfold qfk
  exact Nat.le_trans h1 (Nat.le_add_right _ _)
theorem qh2 {d : DyD} {p : Nat} (h0 : d.num ≠ 0) (hp : qbs d.num.natAbs p) (h : (1024 : Int) ≤ (p : Int) - 1 + d.e) : qaQ d = Ieee.double.word d.neg qaP := by
 rw [qgO h0 hp]
 have hl : qan p d.e = max ((p : Int) - 1 + d.e - 52) (-1074) := rfl
 have h1 := qi7 d.e (show d.num.natAbs ≠ 0 by omega) hp (by omega)
 congr 1
 apply Nat.min_eq_right
 have h2 : 2046 * 4503599627370496 ≤ (qan p d.e + 1074).toNat * 4503599627370496 := Nat.mul_le_mul_right _ (by omega)
 unfold qaP; omega
def qaG (m : Nat) (q : Int) : Nat := min ((q + 1074).toNat * 4503599627370496 + m) qaP
def SG : Nat := 9223372036854775808
def qdZ (x : Nat) : Nat := x % SG
def qo5 (x : Nat) : Nat := Op.negFloat .f64 x
structure Fin (x : Nat) : Prop where
 sub : ∃ d, floatBits .sub .f64 x x = some d ∧ (FloatKind.f64.format.order d 0 == some .eq) = true
 eq : FloatKind.f64.format.order x x = some .eq
 inf : (FloatKind.f64.format.order x 9218868437227405311 == some .gt) = false
 abs : (FloatKind.f64.format.order (qdZ x) 9218868437227405311 == some .gt) = false
 lt : x < 18446744073709551616
def ONE : Nat := 4607182418800017408
def qar (x : Nat) : Nat := if x / 4503599627370496 % 2048 = 0 then x % 4503599627370496 else x % 4503599627370496 + 4503599627370496
def qbk (x : Nat) : Int := if x / 4503599627370496 % 2048 = 0 then -1074 else (x / 4503599627370496 % 2048 : Nat) - 1075
def qbP (neg : Bool) (m : Nat) : Int := if neg then -(m : Int) else m
section
def qbQ (x : Nat) : Bool := decide (x % 9223372036854775808 < qaP)
theorem qcF {x : Nat} (hx : x < 18446744073709551616) (h : qbQ x = true) : Ieee.double.read x = .number (decide (SG ≤ x)) (qar x) (qbk x) := by
 have h := of_decide_eq_true h
 unfold Ieee.Format.read
 simp only [show Ieee.double.signWeight = 9223372036854775808 from by decide, show Ieee.double.binade = 4503599627370496 from by decide, qee, qnj]
 have hn : (x / 9223372036854775808 % 2 == 1) = decide (SG ≤ x) := by
  rw [Bool.eq_iff_iff, beq_iff_eq, decide_eq_true_eq]; unfold SG; omega
 rw [hn]
 unfold qaP at h
 by_cases h1 : x % 9223372036854775808 < 4503599627370496
 ·rw [if_pos h1]
  have e1 : x / 4503599627370496 % 2048 = 0 := by omega
  unfold qar qbk
  rw [if_pos e1, if_pos e1]
  congr 1; omega
 ·rw [if_neg h1, if_pos (by unfold qaP; omega)]
  have e1 : ¬ x / 4503599627370496 % 2048 = 0 := by omega
  unfold qar qbk
  rw [if_neg e1, if_neg e1]
  congr 1 <;> omega
theorem qew (x : Nat) : qar x < 9007199254740992 := by unfold qar; split <;> omega
theorem qcO {x : Nat} (h : qbQ x = true) : -1074 ≤ qbk x ∧ qbk x ≤ 971 := by
 have h := of_decide_eq_true h
 unfold qaP at h
 unfold qbk; split <;> omega
theorem qlJ {x : Nat} (h : qaP < x % 9223372036854775808) (y : Nat) : Ieee.double.order x y = none := by
 have : ∃ a b, Ieee.double.read x = .nan a b := by
  unfold Ieee.Format.read
  simp only [show Ieee.double.signWeight = 9223372036854775808 from by decide, show Ieee.double.binade = 4503599627370496 from by decide, qee]
  unfold qaP at h ⊢
  rw [if_neg (by omega), if_neg (by omega), if_neg (by omega)]
  exact ⟨_, _, rfl⟩
 obtain ⟨a, b, e⟩ := this
 unfold Ieee.Format.order
 rw [e]; rfl
theorem qjl {x : Nat} (h : x % 9223372036854775808 = qaP) : Ieee.double.read x = .infinity (decide (SG ≤ x) && decide (x / 9223372036854775808 % 2 = 1)) := by
 unfold Ieee.Format.read
 simp only [show Ieee.double.signWeight = 9223372036854775808 from by decide, show Ieee.double.binade = 4503599627370496 from by decide, qee]
 unfold qaP at h ⊢
 rw [if_neg (by omega), if_neg (by omega), if_pos h]
 congr 1
 rw [Bool.eq_iff_iff, beq_iff_eq, Bool.and_eq_true, decide_eq_true_eq, decide_eq_true_eq]; unfold SG; omega
theorem qnr : Ieee.double.read 9218868437227405311 = .number false 9007199254740991 971 := by decide
theorem qh0 : Ieee.double.read 0 = .number false 0 (-1074) := by decide
theorem qdy (neg : Bool) (m u : Nat) : Ieee.signed neg m u = qbP neg m * 2 ^ u := by
 unfold Ieee.signed qbP
 cases neg
 ·simp [Nat.shiftLeft_eq]
 ·simp [Nat.shiftLeft_eq, Int.neg_mul]
theorem qkj {a b : Int} (h : a ≤ b) : (some (compare a b) == some Ordering.gt) = false := by
 have : compare a b ≠ .gt := by
  show compareOfLessAndEq a b ≠ _
  unfold compareOfLessAndEq
  split
  ·simp
  ·rw [if_pos (by omega)]; simp
 cases hc : compare a b
 ·rfl
 ·rfl
 ·exact absurd hc this
theorem qe2 {a b : Int} (h : b ≤ a) : (some (compare a b) == some Ordering.lt) = false := by
 have : compare a b ≠ .lt := by
  show compareOfLessAndEq a b ≠ _
  unfold compareOfLessAndEq
  rw [if_neg (by omega)]
  split <;> simp
 cases hc : compare a b
 ·exact absurd hc this
 ·rfl
 ·rfl
theorem qjL {a b : Int} (h : a < b) : (some (compare a b) == some Ordering.lt) = true := by
 have : compare a b = .lt := by
  show compareOfLessAndEq a b = _
  unfold compareOfLessAndEq
  rw [if_pos h]
 rw [this]; rfl
theorem qhi (a : Int) : (some (compare a a) == some Ordering.eq) = true := by
 have : compare a a = .eq := by
  show compareOfLessAndEq a a = _
  unfold compareOfLessAndEq
  rw [if_neg (by omega), if_pos rfl]
 rw [this]; rfl
section
variable {x : Nat} (hx : x < 18446744073709551616) (h : qbQ x = true)
include hx h
theorem qjc : (Ieee.double.order x x == some .eq) = true := by
 unfold Ieee.Format.order
 rw [qcF hx h]
 exact qhi _
theorem qkN : (Ieee.double.order x 9218868437227405311 == some .gt) = false := by
 unfold Ieee.Format.order
 rw [qcF hx h, qnr]
 have h1 := qcO h
 have h2 := qew x
 refine qkj ?_
 simp only [qdy]
 rw [show (qbk x - min (qbk x) 971).toNat = 0 by omega, Int.pow_zero, Int.mul_one]
 have h3 : (1 : Int) ≤ 2 ^ (971 - min (qbk x) 971).toNat := by
  have := Int.pow_pos (n := 2) (m := (971 - min (qbk x) 971).toNat) (by omega); omega
 have h4 : qbP (decide (SG ≤ x)) (qar x) ≤ 9007199254740991 := by unfold qbP; split <;> omega
 have h5 : (9007199254740991 : Int) * 1 ≤ 9007199254740991 * 2 ^ (971 - min (qbk x) 971).toNat := Int.mul_le_mul_of_nonneg_left h3 (by omega)
 show _ ≤ qbP false 9007199254740991 * _
 rw [show qbP false 9007199254740991 = 9007199254740991 from rfl]
 omega
theorem fin_neg : (Ieee.double.order x 0 == some .lt) = (decide (SG ≤ x) && decide (qar x ≠ 0)) := by
 unfold Ieee.Format.order
 rw [qcF hx h, qh0]
 have h1 := qcO h
 show (some (compare (Ieee.signed (decide (SG ≤ x)) (qar x) (qbk x - min (qbk x) (-1074)).toNat) (Ieee.signed false 0 (-1074 - min (qbk x) (-1074)).toNat)) == some .lt) = _
 simp only [qdy]
 rw [show qbP false 0 = 0 from rfl, Int.zero_mul]
 by_cases hs : SG ≤ x
 ·rw [decide_eq_true hs]
  by_cases hm : qar x = 0
  ·rw [hm, show qbP true 0 = 0 from rfl, Int.zero_mul]
   exact qe2 (Int.le_refl _)
  ·rw [decide_eq_true hm]
   refine qjL (Int.mul_neg_of_neg_of_pos ?_ (Int.pow_pos (by omega)))
   show -(qar x : Int) < 0
   omega
 ·rw [decide_eq_false hs]
  refine qe2 (Int.mul_nonneg ?_ (Int.le_of_lt (Int.pow_pos (by omega))))
  show (0 : Int) ≤ (qar x : Int)
  omega
end
def qa9 (x : Nat) : DyD × Int := if qbQ x then qbh (qbP (decide (SG ≤ x)) (qar x)) (qbk x) else (zD, 5)
theorem qfj (x : Nat) : qad (qa9 x).1 = true := by
 unfold qa9; split
 ·exact qeF _ _
 ·exact qdF
theorem qgU {x : Nat} (h : qbQ x = true) : (qa9 x).2 = 0 := by
 unfold qa9
 rw [if_pos h]
 have h1 := qcO h
 have h2 := qew x
 unfold qbh
 by_cases h0 : qbP (decide (SG ≤ x)) (qar x) = 0
 ·rw [if_pos h0]
 ·rw [if_neg h0]
  have h3 : (qbP (decide (SG ≤ x)) (qar x)).natAbs = qar x := by unfold qbP; split <;> omega
  have h4 := qfI (show qar x ≠ 0 by omega)
  have h5 : tz (qar x) < 53 := h4.lt (show qar x < 2 ^ 53 from h2)
  rw [h3, if_pos]
  refine ⟨?_, by omega, by omega⟩
  have h6 : qar x / 2 ^ tz (qar x) ≤ qar x := Nat.div_le_self _ _
  rw [qeh]
  exact qgp (a := 8) (by omega) (by omega)
end
theorem qaI (b : Nat) (w : World) : (callFunc 82 #[.float .f64 b]).run prog w = .ok (.value (.int .u64 b)) w := by
 exact (Go.run_callFunc_extern (e := Extern.MathFloatBits.float64bits) func82 (by kernel_rfl) (by kernel_rfl) (by kernel_rfl) (by kernel_rfl) _ w).trans rfl
theorem qaJ (n : Int) (w : World) : (callFunc 86 #[.int .u64 n]).run prog w = .ok (.value (.float .f64 n.toNat)) w := by
 exact (Go.run_callFunc_extern (e := Extern.MathFloatBits.float64frombits) func86 (by kernel_rfl) (by kernel_rfl) (by kernel_rfl) (by kernel_rfl) _ w).trans rfl
theorem qd9 {x y : Nat} (hx : x < 18446744073709551616) (hy : y < 18446744073709551616) : bits .and .u64 (x : Int) (y : Int) = ((x &&& y : Nat) : Int) := by
 have h1 : BitVec.ofInt 64 (x : Int) = BitVec.ofNat 64 x := by rw [BitVec.ofInt_natCast]
 have h2 : BitVec.ofInt 64 (y : Int) = BitVec.ofNat 64 y := by rw [BitVec.ofInt_natCast]
 have h3 : (BitVec.ofInt 64 (x : Int) &&& BitVec.ofInt 64 (y : Int)).toNat = x &&& y := by
  rw [h1, h2, BitVec.toNat_and, BitVec.toNat_ofNat, BitVec.toNat_ofNat, Nat.mod_eq_of_lt hx, Nat.mod_eq_of_lt hy]
 have h4 : x &&& y ≤ x := Nat.and_le_left
 show IntKind.u64.wrap (((BitVec.ofInt 64 (x : Int) &&& BitVec.ofInt 64 (y : Int)).toNat : Nat) : Int) = _
 rw [h3]
 exact IntWalk.u64_in _ (by omega)
theorem ql7 {x : Nat} (hx : x < 18446744073709551616) : x &&& 2 ^ 63 = if x < SG then 0 else 2 ^ 63 := by
 refine Nat.eq_of_testBit_eq fun i => ?_
 rw [Nat.testBit_and, Nat.testBit_two_pow]
 by_cases hi : 63 = i
 ·subst hi
  by_cases h : x < SG
  ·rw [if_pos h, Nat.testBit_lt_two_pow (show x < 2 ^ 63 from h)]; simp
  ·rw [if_neg h]
   have h1 : x / 2 ^ 63 < 2 := Nat.div_lt_of_lt_mul (by omega)
   have h2 : 1 ≤ x / 2 ^ 63 := (Nat.le_div_iff_mul_le (by decide)).2 (by unfold SG at h; omega)
   have h3 : x / 2 ^ 63 = 1 := by omega
   rw [Nat.testBit_eq_decide_div_mod_eq, h3]; decide
 ·by_cases h : x < SG
  ·simp [h, hi]
  ·rw [if_neg h, Nat.testBit_two_pow]; simp [hi]
theorem qiz {x : Nat} (hx : x < 18446744073709551616) : bits .andNot .u64 (x : Int) 9223372036854775808 = ((qdZ x : Nat) : Int) := by
 have h1 : BitVec.ofInt 64 (x : Int) = BitVec.ofNat 64 x := by rw [BitVec.ofInt_natCast]
 have h3 : (BitVec.ofInt 64 (x : Int) &&& ~~~(BitVec.ofInt 64 9223372036854775808)).toNat = qdZ x := by
  have h5 : ~~~(BitVec.ofInt 64 9223372036854775808) = BitVec.ofNat 64 (2 ^ 63 - 1) := by decide
  rw [h1, h5, BitVec.toNat_and, BitVec.toNat_ofNat, BitVec.toNat_ofNat, Nat.mod_eq_of_lt hx, Nat.mod_eq_of_lt (by decide), Nat.and_two_pow_sub_one_eq_mod]
  rfl
 have h4 : qdZ x ≤ x := Nat.mod_le _ _
 show IntKind.u64.wrap (((BitVec.ofInt 64 (x : Int) &&& ~~~(BitVec.ofInt 64 9223372036854775808)).toNat : Nat) : Int) = _
 rw [h3]
 exact IntWalk.u64_in _ (by omega)
theorem qau {P : Program} (x : Nat) (w : World) : (Op.unary .neg (.float .f64 x)).run P w = .ok (.float .f64 (qo5 x)) w := rfl
theorem qah {P : Program} {w : World} {a : Addr} {m : Mode} (k : FloatKind) (b : Nat) : (store a (.float k b) m).run P w = stored P w a (.float k b) m := run_store P w a _ m rfl
theorem qae {P : Program} {w : World} {a : Addr} {m : Mode} (k : FloatKind) (b c : Nat) : (store a (.complex k b c) m).run P w = stored P w a (.complex k b c) m := run_store P w a _ m rfl
section
set_option maxRecDepth 100000
attribute [local go_sem] run_float_arith qaI qaJ qau qah qae
theorem qjg (x : Nat) (h : x < 18446744073709551616) (w : World) : Calls prog 180 #[.float .f64 x] w fun e w' => e = .returned (.float .f64 (qdZ x)) ∧ w' = w := by
 have hB := qiz h
 clear h
 go_enter func180, ntmps180
 go_wp2
 go_ret
 exact ⟨rfl, rfl⟩
theorem qek (x : Nat) (v : Bool) (hv : (FloatKind.f64.format.order x x == some .eq) = v) (w : World) : Calls prog 144 #[.float .f64 x] w fun e w' => e = .returned (.bool (!v)) ∧ w' = w := by
 rw [← hv]
 clear hv
 go_enter func144, ntmps144
 go_wp2
 go_ret
 exact ⟨rfl, rfl⟩
theorem qg6 (x : Nat) (h : x < 18446744073709551616) (v : Bool) (hv : (FloatKind.f64.format.order (qdZ x) 9218868437227405311 == some .gt) = v) (w : World) : Calls prog 145 #[.float .f64 x, .int .i64 0] w fun e w' => e = .returned (.bool v) ∧ w' = w := by
 have CA := qh (qjg x h)
 go_enter func145, ntmps145
 go_wp2_with (go_at_call 180; (with_reducible refine (CA.out _).mono ?_); rintro e w1 ⟨rfl, hw⟩; subst hw)
 go_ret
 exact ⟨rfl, rfl⟩
theorem qiA {x : Nat} (h : qbQ x = true) : qbQ (qdZ x) = true := by
 unfold qbQ qdZ SG at *
 rw [Nat.mod_mod]; exact h
theorem qkU (x : Nat) : qdZ x < 18446744073709551616 := by unfold qdZ SG; omega
theorem qjh {x : Nat} (hx : x < 18446744073709551616) : bits BinOp.and .u64 (x : Int) 4503599627370495 = ((x % 4503599627370496 : Nat) : Int) := by
 have := qd9 (x := x) (y := 4503599627370495) hx (by omega)
 rw [show ((4503599627370495 : Nat) : Int) = 4503599627370495 from rfl] at this
 rw [this, show (4503599627370495 : Nat) = 2 ^ 52 - 1 by decide, Nat.and_two_pow_sub_one_eq_mod]
theorem qiE {y : Nat} (hy : y < 18446744073709551616) : bits BinOp.and .u64 (y : Int) 2047 = ((y % 2048 : Nat) : Int) := by
 have := qd9 (x := y) (y := 2047) hy (by omega)
 rw [show ((2047 : Nat) : Int) = 2047 from rfl] at this
 rw [this, show (2047 : Nat) = 2 ^ 11 - 1 by decide, Nat.and_two_pow_sub_one_eq_mod]
theorem qmY {m : Nat} (hm : m < 4503599627370496) : bits BinOp.or .i64 (m : Int) 4503599627370496 = ((m + 4503599627370496 : Nat) : Int) := by
 have h1 : (BitVec.ofInt 64 (m : Int)).toNat = m := by
  rw [BitVec.ofInt_natCast, BitVec.toNat_ofNat]; exact Nat.mod_eq_of_lt (by omega)
 have h2 : (BitVec.ofInt 64 (4503599627370496 : Int)).toNat = 4503599627370496 := by decide
 show IntKind.i64.wrap ((BitVec.ofInt 64 (m : Int) ||| BitVec.ofInt 64 (4503599627370496 : Int)).toNat : Int) = _
 have h3 : m ||| 4503599627370496 = m + 4503599627370496 := by
  have := qeH 1 m 52 (by rw [show (2 : Nat) ^ 52 = 4503599627370496 by decide]; exact hm)
  rw [show 1 * 2 ^ 52 = 4503599627370496 by decide] at this
  rw [this]; omega
 rw [BitVec.toNat_or, h1, h2, h3, IntKind.wrap_i64]
 omega
set_option maxHeartbeats 3200000 in
theorem qeY (x : Nat) (w : World) (hx : x < 18446744073709551616) (hT : T32 w) :
  Calls prog 101 #[.float .f64 x] w fun en w' => en = .returned (qaf (qa9 x)) ∧ Kept w w' := by
 by_cases hf : qbQ x = true
 ·have o1 : (FloatKind.f64.format.order x x == some .eq) = true := qjc hx hf
  have o2 : (FloatKind.f64.format.order (qdZ x) 9218868437227405311 == some .gt) = false := qkN (qkU x) (qiA hf)
  have o3 : (FloatKind.f64.format.order x 0 == some .lt) = (decide (SG ≤ x) && decide (qar x ≠ 0)) := fin_neg hx hf
  have CN := qh (qek x true o1)
  have CI := qh (qg6 x hx false o2)
  have h1 := qcO hf
  have h2 := qew x
  obtain ⟨z, hz⟩ : ∃ z, z = qbP (decide (SG ≤ x)) (qar x) := ⟨_, rfl⟩
  have OF : Hid (∀ W, Kept w W → Calls prog 132 #[.int .i64 z, .int .i64 (qbk x)] W fun en w' => en = .returned (qaf (qa9 x)) ∧ Kept W w') := fun W h => by
   have e : qa9 x = qbh z (qbk x) := by unfold qa9; rw [if_pos hf, hz]
   rw [e]
   have hz9 : -9007199254740992 < z ∧ z < 9007199254740992 := by rw [hz]; unfold qbP; split <;> omega
   exact qnD z (qbk x) W (by omega) (by omega) (by omega) (by omega) (hT.kept h)
  generalize qa9 x = R at *
  obtain ⟨e, he⟩ : ∃ e, e = x / 4503599627370496 % 2048 := ⟨_, rfl⟩
  obtain ⟨m, hm⟩ : ∃ m, m = x % 4503599627370496 := ⟨_, rfl⟩
  have hm9 : m < 4503599627370496 := by omega
  have he9 : e < 2048 := by omega
  have b1 := qjh hx
  rw [← hm] at b1
  have b2 : bits BinOp.and .u64 ((x : Int) / 4503599627370496) 2047 = (e : Int) := by
   have := qiE (y := x / 4503599627370496) (by omega)
   rw [← he] at this
   rw [← this]; congr 1
  by_cases h0 : e = 0
  ·have em : qar x = m := by unfold qar; rw [if_pos (by omega)]; exact hm.symm
   have ee : qbk x = -1074 := by unfold qbk; rw [if_pos (by omega)]
   have HZ := qh hz
   rw [ee] at OF
   rw [em] at o3 HZ
   subst h0
   clear em ee h1 h2 he hm hz hT he9
   obtain ⟨lt, hlt⟩ : ∃ b, b = (decide (SG ≤ x) && decide (m ≠ 0)) := ⟨_, rfl⟩
   rw [← hlt] at o3
   cases lt with
   | false =>
    have e0 : z = ((m : Nat) : Int) := by
     rw [HZ.out]; unfold qbP
     by_cases hs : SG ≤ x
     ·rw [decide_eq_true hs, Bool.true_and] at hlt
      have : m = 0 := by have := of_decide_eq_false hlt.symm; omega
      rw [this]; simp
     ·rw [decide_eq_false hs]; simp
    rw [e0] at OF
    clear hlt HZ e0
    go_enter func101, ntmps101
    go_upto_region 1 with fail
    obtain ⟨b, w1, hw, hb, B0, K1, HB⟩ := qa4 w (LC0 false ⟨#[]⟩ 0) 24
    rw [← hw, ← hb]; clear hw hb
    go_wp2_with (first
     | (go_at_call 144; (with_reducible refine (CN.out _).mono ?_); rintro e w3 ⟨rfl, hw⟩; replace hw := hw.symm; subst hw)
     | (go_at_call 145; (with_reducible refine (CI.out _).mono ?_); rintro e w3 ⟨rfl, hw⟩; replace hw := hw.symm; subst hw)
     | (go_at_call 132; (with_reducible refine (OF.out _ K1.out).mono ?_); rintro e w4 ⟨rfl, hk4⟩; have K4 := qh hk4; obtain ⟨c0, c1, c2⟩ := (B0.out.kept hk4).c3; obtain ⟨f0, f1, f2⟩ := (B0.out.kept hk4).f3))
    exact bodyPost_ret (v := qaf R) (by simp [results, results101, go_sem, c0, c1, c2, qaf]) rfl ⟨rfl, (K1.out.trans' K4.out).qaL HB.out _ _ _⟩
   | true =>
    have e0 : z = -((m : Nat) : Int) := by
     rw [HZ.out]; unfold qbP
     rw [eq_comm, Bool.and_eq_true, decide_eq_true_eq] at hlt
     rw [decide_eq_true hlt.1]; simp
    rw [e0] at OF
    clear hlt HZ e0
    go_enter func101, ntmps101
    go_upto_region 1 with fail
    obtain ⟨b, w1, hw, hb, B0, K1, HB⟩ := qa4 w (LC0 false ⟨#[]⟩ 0) 24
    rw [← hw, ← hb]; clear hw hb
    go_wp2_with (first
     | (go_at_call 144; (with_reducible refine (CN.out _).mono ?_); rintro e w3 ⟨rfl, hw⟩; replace hw := hw.symm; subst hw)
     | (go_at_call 145; (with_reducible refine (CI.out _).mono ?_); rintro e w3 ⟨rfl, hw⟩; replace hw := hw.symm; subst hw)
     | (go_at_call 132; (with_reducible refine (OF.out _ K1.out).mono ?_); rintro e w4 ⟨rfl, hk4⟩; have K4 := qh hk4; obtain ⟨c0, c1, c2⟩ := (B0.out.kept hk4).c3; obtain ⟨f0, f1, f2⟩ := (B0.out.kept hk4).f3))
    exact bodyPost_ret (v := qaf R) (by simp [results, results101, go_sem, c0, c1, c2, qaf]) rfl ⟨rfl, (K1.out.trans' K4.out).qaL HB.out _ _ _⟩
  ·have em : qar x = m + 4503599627370496 := by unfold qar; rw [if_neg (by omega), hm]
   have ee : qbk x = (e : Int) - 1075 := by unfold qbk; rw [if_neg (by omega), he]
   have HZ := qh hz
   rw [ee] at OF
   obtain ⟨M, hM⟩ : ∃ M, M = m + 4503599627370496 := ⟨_, rfl⟩
   have b3 := qmY hm9
   rw [← hM] at b3
   rw [em, ← hM] at o3 HZ
   have hM9 : M < 9007199254740992 := by omega
   have h0i : ¬ (e : Int) = 0 := by omega
   clear em ee h1 h2 he hm hz hT h0 hM
   obtain ⟨lt, hlt⟩ : ∃ b, b = (decide (SG ≤ x) && decide (M ≠ 0)) := ⟨_, rfl⟩
   rw [← hlt] at o3
   cases lt with
   | false =>
    have e0 : z = ((M : Nat) : Int) := by
     rw [HZ.out]; unfold qbP
     by_cases hs : SG ≤ x
     ·rw [decide_eq_true hs, Bool.true_and] at hlt
      have : M = 0 := by have := of_decide_eq_false hlt.symm; omega
      rw [this]; simp
     ·rw [decide_eq_false hs]; simp
    rw [e0] at OF
    clear hlt HZ e0
    go_enter func101, ntmps101
    go_upto_region 1 with fail
    obtain ⟨b, w1, hw, hb, B0, K1, HB⟩ := qa4 w (LC0 false ⟨#[]⟩ 0) 24
    rw [← hw, ← hb]; clear hw hb
    go_wp2_with (first
     | (go_at_call 144; (with_reducible refine (CN.out _).mono ?_); rintro e w3 ⟨rfl, hw⟩; replace hw := hw.symm; subst hw)
     | (go_at_call 145; (with_reducible refine (CI.out _).mono ?_); rintro e w3 ⟨rfl, hw⟩; replace hw := hw.symm; subst hw)
     | (go_at_call 132; (with_reducible refine (OF.out _ K1.out).mono ?_); rintro e w4 ⟨rfl, hk4⟩; have K4 := qh hk4; obtain ⟨c0, c1, c2⟩ := (B0.out.kept hk4).c3; obtain ⟨f0, f1, f2⟩ := (B0.out.kept hk4).f3))
    exact bodyPost_ret (v := qaf R) (by simp [results, results101, go_sem, c0, c1, c2, qaf]) rfl ⟨rfl, (K1.out.trans' K4.out).qaL HB.out _ _ _⟩
   | true =>
    have e0 : z = -((M : Nat) : Int) := by
     rw [HZ.out]; unfold qbP
     rw [eq_comm, Bool.and_eq_true, decide_eq_true_eq] at hlt
     rw [decide_eq_true hlt.1]; simp
    rw [e0] at OF
    clear hlt HZ e0
    go_enter func101, ntmps101
    go_upto_region 1 with fail
    obtain ⟨b, w1, hw, hb, B0, K1, HB⟩ := qa4 w (LC0 false ⟨#[]⟩ 0) 24
    rw [← hw, ← hb]; clear hw hb
    go_wp2_with (first
     | (go_at_call 144; (with_reducible refine (CN.out _).mono ?_); rintro e w3 ⟨rfl, hw⟩; replace hw := hw.symm; subst hw)
     | (go_at_call 145; (with_reducible refine (CI.out _).mono ?_); rintro e w3 ⟨rfl, hw⟩; replace hw := hw.symm; subst hw)
     | (go_at_call 132; (with_reducible refine (OF.out _ K1.out).mono ?_); rintro e w4 ⟨rfl, hk4⟩; have K4 := qh hk4; obtain ⟨c0, c1, c2⟩ := (B0.out.kept hk4).c3; obtain ⟨f0, f1, f2⟩ := (B0.out.kept hk4).f3))
    exact bodyPost_ret (v := qaf R) (by simp [results, results101, go_sem, c0, c1, c2, qaf]) rfl ⟨rfl, (K1.out.trans' K4.out).qaL HB.out _ _ _⟩
 ·have HR : qa9 x = (zD, 5) := by unfold qa9; rw [if_neg hf]
  rw [HR]
  clear HR hT
  by_cases hn : qaP < x % 9223372036854775808
  ·have o1 : (FloatKind.f64.format.order x x == some .eq) = false := by
    rw [show FloatKind.f64.format.order x x = none from qlJ hn x]; rfl
   have CN := qh (qek x false o1)
   have CI := qh qek
   clear hf hn
   go_enter func101, ntmps101
   go_upto_region 1 with fail
   obtain ⟨b, w1, hw, hb, B0, K1, HB⟩ := qa4 w (LC0 false ⟨#[]⟩ 0) 24
   rw [← hw, ← hb]; clear hw hb
   obtain ⟨c0, c1, c2⟩ := B0.out.c3
   obtain ⟨f0, f1, f2⟩ := B0.out.f3
   go_wp2_with (first
    | (go_at_call 144; (with_reducible refine (CN.out _).mono ?_); rintro e w3 ⟨rfl, hw⟩; replace hw := hw.symm; subst hw)
    | (go_at_call 145; (with_reducible refine (CI.out _).mono ?_); rintro e w3 ⟨rfl, hw⟩; replace hw := hw.symm; subst hw))
   exact bodyPost_ret (v := qaf (zD, 5)) (by simp [results, results101, go_sem, c0, c1, c2, qaf, zD]) rfl ⟨rfl, K1.out.qaL HB.out _ _ _⟩
  ·have hi : x % 9223372036854775808 = qaP := by
    unfold qbQ at hf
    rw [decide_eq_true_eq] at hf
    omega
   have o1 : (FloatKind.f64.format.order x x == some .eq) = true := by
    show (Ieee.double.order x x == some .eq) = true
    unfold Ieee.Format.order
    rw [qjl hi]
    generalize (decide (SG ≤ x) && decide (x / 9223372036854775808 % 2 = 1)) = s
    cases s <;> decide
   have o2 : (FloatKind.f64.format.order (qdZ x) 9218868437227405311 == some .gt) = true := by
    show (Ieee.double.order (qdZ x) 9218868437227405311 == some .gt) = true
    unfold qdZ SG
    rw [hi]; decide +kernel
   have CN := qh (qek x true o1)
   have CI := qh (qg6 x hx true o2)
   clear hf hn hi
   go_enter func101, ntmps101
   go_upto_region 1 with fail
   obtain ⟨b, w1, hw, hb, B0, K1, HB⟩ := qa4 w (LC0 false ⟨#[]⟩ 0) 24
   rw [← hw, ← hb]; clear hw hb
   obtain ⟨c0, c1, c2⟩ := B0.out.c3
   obtain ⟨f0, f1, f2⟩ := B0.out.f3
   go_wp2_with (first
    | (go_at_call 144; (with_reducible refine (CN.out _).mono ?_); rintro e w3 ⟨rfl, hw⟩; replace hw := hw.symm; subst hw)
    | (go_at_call 145; (with_reducible refine (CI.out _).mono ?_); rintro e w3 ⟨rfl, hw⟩; replace hw := hw.symm; subst hw))
   exact bodyPost_ret (v := qaf (zD, 5)) (by simp [results, results101, go_sem, c0, c1, c2, qaf, zD]) rfl ⟨rfl, K1.out.qaL HB.out _ _ _⟩
end
section
set_option maxHeartbeats 3200000
set_option maxRecDepth 100000
attribute [local go_sem] run_float_arith qaI qaJ qau qah qae
theorem qeB (d : DyD) (t : Nat) (w : World) (hd : qad d = true) (h0 : d.num ≠ 0) (ht : qbs d.num.natAbs t) :
  Calls prog 123 #[.agg #[.bool d.neg, .string d.n, .int .i64 d.e]] w fun en w' => en = .returned (.tuple #[.int .i64 ((t : Int) - 1 + d.e), .bool true]) ∧ Kept w w' := by
 have OF := qh (fun W => qkr hd W)
 have hxe := (qag hd).2.2.2
 have hne := qcG hd h0
 have BL : Hid (∀ W A c (l : List Nat), l.length ≤ 16384 → Row W A (qaU l) → D8 l d.num.natAbs → Calls prog 160 #[.slice A l.length c] W fun e w' => e = .returned (.int .i64 (t : Int)) ∧ w' = W) := fun W A c l hl hr hdl =>
  (qle A c l d.num.natAbs W (by omega) hr hdl).mono fun e w' ⟨t', h1, h2, h3, h4⟩ => ⟨by rw [h1, h2.uniq ht], h4⟩
 have ht9 : t ≤ 8 * 16384 := qcU ht (qag hd).1
 obtain ⟨xn, s, xe⟩ := d
 simp only at OF hxe BL hne ⊢
 generalize (DyD.mk xn s xe).num = X at *
 obtain ⟨xe0, xe1⟩ := hxe
 have hd0 : s.data.toList ≠ [] := fun h => hne ((qbG s).1 h)
 have hz : s.toList = [] ↔ False := by
  rw [Lib.toList_data]
  exact ⟨fun h => hd0 h, False.elim⟩
 have hz1 : s.toList.isEmpty = false := by
  cases h : s.toList with
  | nil => exact (hz.1 h).elim
  | cons x l => rfl
 have ew : IntKind.i64.wrap ((t : Int) - 1 + xe) = (t : Int) - 1 + xe := IntWalk.i64_in _ (by omega)
 have ew2 : IntKind.i64.wrap ((t : Int) - 1) = (t : Int) - 1 := IntWalk.i64_in _ (by omega)
 clear hd h0 ht hd0
 go_enter func123, ntmps123
 go_upto_region 1 with fail
 obtain ⟨b, w1, hw, hb, B0, K1, HB⟩ := qa4 w (LC0 xn s xe) 24
 rw [← hw, ← hb]; clear hw hb
 obtain ⟨c0, c1, c2⟩ := B0.out.c3
 go_wp2_with fail
 have hS0 := (B0.out.kept (Below.refl _ w1).drew).c3
 refine qab (fun W => W.cell? ⟨b, 0, none⟩ = some (.bool xn) ∧ W.cell? ⟨b, 1, none⟩ = some (.string s) ∧ W.cell? ⟨b, 2, none⟩ = some (.int .i64 xe)) [8,9] (by kernel_rfl) ?_ (fun hHeld => ?_)
 ·assumption
 refine wS 0 7 ?_
 refine wS 1 8 ?_
 refine wS 5 12 ?_
 refine wS 6 13 ?_
 refine oS 2 fun K hK => ?_
 go_simp
 (refine (OF.out _).mono ?_; rintro e w5 ⟨A, c, l, rfl, hlc, hl, hr, hdl, hk5⟩; have K5 := qh ((Below.refl _ w1).drew.trans (hk5.mono (Nat.le_refl _))); have hS5 := (B0.out.kept K5.out).c3; have BLL := qh (BL.out w5 A c l hl hr hdl); clear hlc hl hr hdl hk5)
 refine hK.out _ _ ?_ (fun hHeld => ?_)
 ·assumption
 clear hK K
 try simp only [Act.put, tdy]
 refine oS 3 fun K hK => ?_
 go_simp
 (refine BLL.out.mono ?_; rintro e w6 ⟨rfl, hw6⟩; subst hw6)
 refine hK.out _ _ ?_ (fun hHeld => ?_)
 ·assumption
 clear hK K
 try simp only [Act.put, tdy]
 refine wS 4 11 ?_
 refine wS 7 14 ?_
 refine eS 8 fun K hK => ?_
 go_simp
 refine hK.out _ _ ?_
 clear hK K
 try simp only [Act.put, tdy]
 refine eS 9 fun K hK => ?_
 go_simp
 refine hK.out _ _ ?_
 clear hK K
 try simp only [Act.put, tdy]
 refine dS ?_ _
 go_wp2_with fail
 go_ret2
 exact ⟨rfl, K1.out.trans' K5.out⟩
theorem qnp (n e : Int) (w : World) (h0 : -9223372036854775808 ≤ n) (h0' : n ≤ 9223372036854775807) (he : e.natAbs ≤ 1000000000) :
  Calls prog 138 #[.int .i64 n, .int .i64 e] w fun en w' => en = .returned (qaf (qbh n e)) ∧ Kept w w' := by
 obtain ⟨m, hm⟩ : ∃ m, m = n.natAbs := ⟨_, rfl⟩
 have OF : Hid (∀ W, Calls prog 157 #[.int .u64 (m : Int)] W fun e w' => e = .returned (.string (qa8 m)) ∧ Kept W w') := fun W => qkP m W (by omega)
 have MK : Hid (∀ W, Calls prog 156 #[.bool (decide (n < 0)), .string (qa8 m), .int .i64 e] W fun en w' => en = .returned (qaf (qbh n e)) ∧ Kept W w') := fun W => qhB _ m n e W (by omega) hm.symm (fun _ => rfl) he
 generalize qbh n e = R at *
 generalize qa8 m = s at *
 by_cases hn : n < 0
 ·rw [decide_eq_true hn] at MK
  obtain ⟨k, hk⟩ : ∃ k, k = 18446744073709551616 - m := ⟨_, rfl⟩
  have e3 : IntKind.u64.wrap n = (k : Int) := by rw [IntKind.wrap_u64]; omega
  have e4 : IntKind.u64.wrap (-(k : Int)) = (m : Int) := by rw [IntKind.wrap_u64]; omega
  have hkb : k < 18446744073709551616 := by omega
  clear hk
  clear hm
  go_enter func138, ntmps138
  go_upto_region 1 with fail
  obtain ⟨b, w1, hw, hb, B0, K1, HB⟩ := qa4 w (LC0 false ⟨#[]⟩ 0) 24
  rw [← hw, ← hb]; clear hw hb
  go_upto_region 4 with fail
  clear e3 e4 hkb
  go_wp2_with ((go_at_call 157; (with_reducible refine (OF.out _).mono ?_); rintro e w2 ⟨rfl, hk2⟩))
  (with_reducible refine (MK.out _).mono ?_); rintro e w3 ⟨rfl, hk3⟩; have K3 := qh ((K1.out.trans' hk2).trans' hk3); have B3 := qh ((B0.out.kept hk2).kept hk3); obtain ⟨c0, c1, c2⟩ := B3.out.c3; obtain ⟨f0, f1, f2⟩ := B3.out.f3
  clear h0 h0' he hn OF MK hk2 hk3
  go_wp2_with fail
  exact bodyPost_ret (v := qaf R) (by simp [results, results138, go_sem, c0, c1, c2, qaf]) rfl ⟨rfl, K3.out.qaL HB.out _ _ _⟩
 ·rw [decide_eq_false hn] at MK
  obtain ⟨k, rfl⟩ := Int.eq_ofNat_of_zero_le (show 0 ≤ n by omega)
  obtain rfl : m = k := by omega
  clear hm
  go_enter func138, ntmps138
  go_upto_region 1 with fail
  obtain ⟨b, w1, hw, hb, B0, K1, HB⟩ := qa4 w (LC0 false ⟨#[]⟩ 0) 24
  rw [← hw, ← hb]; clear hw hb
  go_wp2_with (first
   | (go_at_call 157; (with_reducible refine (OF.out _).mono ?_); rintro e w2 ⟨rfl, hk2⟩)
   | (go_at_call 156; (with_reducible refine (MK.out _).mono ?_); rintro e w3 ⟨rfl, hk3⟩; have K3 := qh ((K1.out.trans' hk2).trans' hk3); have B3 := qh ((B0.out.kept hk2).kept hk3); obtain ⟨c0, c1, c2⟩ := B3.out.c3; obtain ⟨f0, f1, f2⟩ := B3.out.f3))
  exact bodyPost_ret (v := qaf R) (by simp [results, results138, go_sem, c0, c1, c2, qaf]) rfl ⟨rfl, K3.out.qaL HB.out _ _ _⟩
theorem qd6 (x : Nat) (w : World) (hx : x < 18446744073709551616) :
  Calls prog 118 #[.float .f64 x] w fun en w' => en = .returned (qaf (qa9 x)) ∧ Kept w w' := by
 obtain ⟨e, he⟩ : ∃ e, e = x / 4503599627370496 % 2048 := ⟨_, rfl⟩
 obtain ⟨m, hm⟩ : ∃ m, m = x % 4503599627370496 := ⟨_, rfl⟩
 have hm9 : m < 4503599627370496 := by omega
 have he9 : e < 2048 := by omega
 have b1 := qjh hx
 rw [← hm] at b1
 have b2 : bits BinOp.and .u64 ((x : Int) / 4503599627370496) 2047 = (e : Int) := by
  have := qiE (y := x / 4503599627370496) (by omega)
  rw [← he] at this
  rw [← this]; congr 1
 by_cases hf : qbQ x = true
 ·have hf2 : ¬ e = 2047 := by
   have h := of_decide_eq_true hf
   unfold qaP at h
   omega
  have hfI : ¬ (e : Int) = 2047 := by omega
  have hfR : qa9 x = qbh (qbP (decide (SG ≤ x)) (qar x)) (qbk x) := by unfold qa9; rw [if_pos hf]
  have h1 := qcO hf
  have h2 := qew x
  have hsg : (qbP (decide (SG ≤ x)) (qar x)).natAbs = qar x ∧ (qbP (decide (SG ≤ x)) (qar x) ≠ 0 → decide (SG ≤ x) = decide (qbP (decide (SG ≤ x)) (qar x) < 0)) := by
   unfold qbP
   by_cases hs : SG ≤ x
   ·rw [decide_eq_true hs]
    simp
    omega
   ·rw [decide_eq_false hs]
    simp
  have hsx : ((x : Int) / 9223372036854775808 == 1) = decide (SG ≤ x) := by
   rw [Bool.eq_iff_iff, beq_iff_eq, decide_eq_true_eq]; unfold SG; omega
  have OF : Hid (∀ W, Calls prog 157 #[.int .u64 (qar x : Nat)] W fun e w' => e = .returned (.string (qa8 (qar x))) ∧ Kept W w') := fun W => qkP (qar x) W (by omega)
  have MK : Hid (∀ W, Calls prog 156 #[.bool (decide (SG ≤ x)), .string (qa8 (qar x)), .int .i64 (qbk x)] W fun en w' => en = .returned (qaf (qa9 x)) ∧ Kept W w') := fun W => by
   rw [hfR]
   exact qhB _ (qar x) _ (qbk x) W (by omega) hsg.1 hsg.2 (by omega)
  generalize qa9 x = R at *
  generalize qa8 (qar x) = s at *
  generalize decide (SG ≤ x) = sg at *
  by_cases h0 : e = 0
  ·have em : qar x = m := by unfold qar; rw [if_pos (by omega)]; exact hm.symm
   have ee : qbk x = -1074 := by unfold qbk; rw [if_pos (by omega)]
   rw [em] at OF
   rw [ee] at MK
   subst h0
   clear em ee h1 h2 he hm hfR hf hf2 hsg he9
   go_enter func118, ntmps118
   go_upto_region 1 with fail
   obtain ⟨b, w1, hw, hb, B0, K1, HB⟩ := qa4 w (LC0 false ⟨#[]⟩ 0) 24
   rw [← hw, ← hb]; clear hw hb
   obtain ⟨b0, b1, b2⟩ := B0.out.c3
   obtain ⟨g0, g1, g2⟩ := B0.out.f3
   go_wp2_with (first
    | (go_at_call 157; (with_reducible refine (OF.out _).mono ?_); rintro e w2 ⟨rfl, hk2⟩)
    | (go_at_call 156; (with_reducible refine (MK.out _).mono ?_); rintro e w3 ⟨rfl, hk3⟩; have K3 := qh ((K1.out.trans' hk2).trans' hk3); have B3 := qh ((B0.out.kept hk2).kept hk3); obtain ⟨c0, c1, c2⟩ := B3.out.c3; obtain ⟨f0, f1, f2⟩ := B3.out.f3))
   exact bodyPost_ret (v := qaf R) (by simp [results, results118, go_sem, c0, c1, c2, qaf]) rfl ⟨rfl, K3.out.qaL HB.out _ _ _⟩
  ·have em : qar x = m + 4503599627370496 := by unfold qar; rw [if_neg (by omega), hm]
   have ee : qbk x = (e : Int) - 1075 := by unfold qbk; rw [if_neg (by omega), he]
   have e0 : ¬ (e : Int) = 0 := by omega
   rw [em, show ((m + 4503599627370496 : Nat) : Int) = (m : Int) + 4503599627370496 by omega] at OF
   rw [ee] at MK
   clear em ee h1 h2 he hm hfR hf hf2 hsg
   go_enter func118, ntmps118
   go_upto_region 1 with fail
   obtain ⟨b, w1, hw, hb, B0, K1, HB⟩ := qa4 w (LC0 false ⟨#[]⟩ 0) 24
   rw [← hw, ← hb]; clear hw hb
   obtain ⟨b0, b1, b2⟩ := B0.out.c3
   obtain ⟨g0, g1, g2⟩ := B0.out.f3
   go_wp2_with (first
    | (go_at_call 157; (with_reducible refine (OF.out _).mono ?_); rintro e w2 ⟨rfl, hk2⟩)
    | (go_at_call 156; (with_reducible refine (MK.out _).mono ?_); rintro e w3 ⟨rfl, hk3⟩; have K3 := qh ((K1.out.trans' hk2).trans' hk3); have B3 := qh ((B0.out.kept hk2).kept hk3); obtain ⟨c0, c1, c2⟩ := B3.out.c3; obtain ⟨f0, f1, f2⟩ := B3.out.f3))
   exact bodyPost_ret (v := qaf R) (by simp [results, results118, go_sem, c0, c1, c2, qaf]) rfl ⟨rfl, K3.out.qaL HB.out _ _ _⟩
 ·have hf2 : e = 2047 := by
   have h : ¬ x % 9223372036854775808 < qaP := fun h => hf (decide_eq_true h)
   unfold qaP at h
   omega
  have HF := qh (show qa9 x = (zD, 5) by unfold qa9; rw [if_neg hf])
  subst hf2
  clear he hm
  go_enter func118, ntmps118
  go_upto_region 1 with fail
  obtain ⟨b, w1, hw, hb, B0, K1, HB⟩ := qa4 w (LC0 false ⟨#[]⟩ 0) 24
  rw [← hw, ← hb]; clear hw hb
  obtain ⟨c0, c1, c2⟩ := B0.out.c3
  obtain ⟨f0, f1, f2⟩ := B0.out.f3
  go_wp2_with fail
  exact bodyPost_ret (v := qaf (zD, 5)) (by simp [results, results118, go_sem, c0, c1, c2, qaf, zD]) rfl ⟨by rw [HF.out], K1.out.qaL HB.out _ _ _⟩
end
section
section
variable {W : World} {v v' : Value} {x y k k' : Nat}
theorem qoL (h : qbn W v x k) (h' : qbn W v' y k') (hk : k ≤ 1000000) (hk' : k' ≤ 1000000) : Calls prog 136 #[v, v'] W fun e w' => ∃ u, e = .returned u ∧ qbn w' u (x + y) (max k k' + 1) ∧ Kept W w' := by
 obtain ⟨A, c, l, rfl, h1, h2, h3, h4⟩ := h
 obtain ⟨A', c', l', rfl, g1, g2, g3, g4⟩ := h'
 refine (qlw A A' c c' l l' x y W (by omega) (by omega) h3 g3 h4 g4).mono ?_
 rintro e w' ⟨u, rfl, ⟨A2, c2, l2, r1, r2, r3, r4⟩, hk⟩
 exact ⟨u, rfl, ⟨A2, c2, l2, r1, r2, by omega, r4⟩, hk⟩
theorem qib (h : qbn W v x k) (h' : qbn W v' y k') (hk : k ≤ 1000000) (hxy : y ≤ x) : Calls prog 137 #[v, v'] W fun e w' => ∃ u, e = .returned u ∧ qbn w' u (x - y) k ∧ Kept W w' := by
 obtain ⟨A, c, l, rfl, h1, h2, h3, h4⟩ := h
 obtain ⟨A', c', l', rfl, g1, g2, g3, g4⟩ := h'
 refine (qkh A A' c c' l l' x y W (by omega) h3 g3 h4 g4 hxy).mono ?_
 rintro e w' ⟨u, rfl, ⟨A2, c2, l2, r1, r2, r3, r4⟩, hk⟩
 exact ⟨u, rfl, ⟨A2, c2, l2, r1, r2, by omega, r4⟩, hk⟩
theorem qov (h : qbn W v x k) (h' : qbn W v' y k') (hk : k ≤ 1000000) (hk' : k' ≤ 1000000) : Calls prog 162 #[v, v'] W fun e w' => ∃ u, e = .returned u ∧ qbn w' u (x * y) (k + k' + 1) ∧ Kept W w' := by
 obtain ⟨A, c, l, rfl, h1, h2, h3, h4⟩ := h
 obtain ⟨A', c', l', rfl, g1, g2, g3, g4⟩ := h'
 refine (qjQ A A' c c' l l' x y W (by omega) (by omega) h3 g3 h4 g4).mono ?_
 rintro e w' ⟨u, rfl, ⟨A2, c2, l2, r1, r2, r3, r4⟩, hk⟩
 exact ⟨u, rfl, ⟨A2, c2, l2, r1, r2, by omega, r4⟩, hk⟩
theorem qe3 (h : qbn W v x k) (hk : k ≤ 1000000) (s : Nat) (hs : s ≤ 10000000) : Calls prog 125 #[v, .int .i64 (s : Int)] W fun e w' => ∃ u, e = .returned u ∧ qbn w' u (x * 2 ^ s) (k + s / 8 + 1) ∧ Kept W w' := by
 obtain ⟨A, c, l, rfl, h1, h2, h3, h4⟩ := h
 refine (qlD A c l x s W (by omega) (by omega) h3 h4).mono ?_
 rintro e w' ⟨u, rfl, ⟨A2, c2, l2, r1, r2, r3, r4⟩, hk⟩
 exact ⟨u, rfl, ⟨A2, c2, l2, r1, r2, by omega, r4⟩, hk⟩
theorem qk7 (h : qbn W v x k) (h' : qbn W v' y k') (hk : k ≤ 1000000) (hk' : k' ≤ 1000000) : Calls prog 126 #[v, v'] W fun e w' => e = .returned (.int .i64 (qbD x y)) ∧ Kept W w' := by
 obtain ⟨A, c, l, rfl, h1, h2, h3, h4⟩ := h
 obtain ⟨A', c', l', rfl, g1, g2, g3, g4⟩ := h'
 refine (qnF A A' c c' l l' x y W (by omega) (by omega) h3 g3 h4 g4).mono ?_
 rintro e w' ⟨rfl, m, rfl⟩
 exact ⟨rfl, qaz (Below.refl _ _) _⟩
theorem qk5 (h : qbn W v x k) (hk : k ≤ 100000) (neg : Bool) (z e : Int) (hz : z.natAbs = x) (hneg : z ≠ 0 → neg = decide (z < 0)) (he : e.natAbs ≤ 1000000000) :
  Calls prog 135 #[.bool neg, v, .int .i64 e] W fun en w' => en = .returned (qaf (qbh z e)) ∧ Kept W w' := by
 obtain ⟨A, c, l, rfl, h1, h2, h3, h4⟩ := h
 exact qju neg A c l x z e W (by omega) h3 h1 h4 hz hneg he
end
theorem qlA {d : DyD} (hd : qad d = true) (w : World) : Calls prog 124 #[.string d.n] w fun e w' => ∃ v, e = .returned v ∧ qbn w' v d.num.natAbs 16384 ∧ Kept w w' := by
 refine (qkr hd w).mono ?_
 rintro e w' ⟨A, c, l, rfl, h1, h2, h3, h4, hk⟩
 exact ⟨_, rfl, ⟨A, c, l, rfl, h1, h2, h3, h4⟩, hk⟩
theorem qe0 {s : ByteArray} (hne : s ≠ ⟨#[]⟩) : (s.toList = [] ↔ False) ∧ s.toList.isEmpty = false := by
 have hd0 : s.data.toList ≠ [] := fun h => hne ((qbG s).1 h)
 have hz : s.toList = [] ↔ False := by
  rw [Lib.toList_data]
  exact ⟨fun h => hd0 h, False.elim⟩
 refine ⟨hz, ?_⟩
 cases h : s.toList with
 | nil => exact (hz.1 h).elim
 | cons x l => rfl
theorem Kept.drew' {w W : World} (h : Kept w W) : Kept w W.drew := Below.drew h
theorem qjv {x y : Nat} (h : y ≤ x) : (0 : Int) ≤ qbD x y := by
 unfold qbD
 rw [if_neg (by omega)]
 split <;> omega
theorem qot {x y : DyD} (hge : y.e ≤ x.e) (h1 : x.num ≠ 0) (h2 : y.num ≠ 0) : qaS x y = if 131080 < x.e - y.e then (zD, 4) else qbh (x.num * 2 ^ (x.e - y.e).toNat + y.num) y.e := by
 unfold qaS
 rw [if_neg h1, if_neg h2, Int.max_eq_left hge, Int.min_eq_right hge, Int.sub_self]
 simp
set_option maxRecDepth 100000 in
set_option maxHeartbeats 3200000 in
theorem qk0 (x y : DyD) (w : World) (hx : qad x = true) (hy : qad y = true) (hge : y.e ≤ x.e) :
  Calls prog 91 #[.agg #[.bool x.neg, .string x.n, .int .i64 x.e], .agg #[.bool y.neg, .string y.n, .int .i64 y.e]] w fun en w' => en = .returned (qaf (qaS x y)) ∧ Kept w w' := by
 by_cases h1 : x.num = 0
 ·have HA := qh (show qaS x y = (y, 0) by unfold qaS; rw [if_pos h1])
  obtain rfl := (qag hx).2.1 h1
  obtain ⟨yn, ys, ye⟩ := y
  show Calls prog 91 #[.agg #[.bool false, .string ⟨#[]⟩, .int .i64 0], .agg #[.bool yn, .string ys, .int .i64 ye]] w _
  clear h1 hx hy hge
  go_enter func91, ntmps91
  go_upto_region 1 with fail
  obtain ⟨b, w1, hw, hb, B0, B1, B2, K1, HB⟩ := qct w (LC0 false ⟨#[]⟩ 0) 24 (LC0 yn ys ye) 24 (LC0 false ⟨#[]⟩ 0) 24
  rw [← hw, ← hb]; clear hw hb
  obtain ⟨c0, c1, c2⟩ := B0.out.c3
  obtain ⟨d0, d1, d2⟩ := B1.out.c3
  obtain ⟨e0, e1, e2⟩ := B2.out.c3
  obtain ⟨f0, f1, f2⟩ := B2.out.f3
  go_wp2_with fail
  exact bodyPost_ret (v := qaf (⟨yn, ys, ye⟩, 0)) (by simp [results, results91, go_sem, e0, e1, e2, qaf]) rfl ⟨by rw [HA.out], K1.out.qaL (by have := HB.out; omega) _ _ _⟩
 ·have hxne := qe0 (qcG hx h1)
  by_cases h2 : y.num = 0
  ·have HA := qh (show qaS x y = (x, 0) by unfold qaS; rw [if_neg h1, if_pos h2])
   obtain rfl := (qag hy).2.1 h2
   obtain ⟨xn, xs, xe⟩ := x
   show Calls prog 91 #[.agg #[.bool xn, .string xs, .int .i64 xe], .agg #[.bool false, .string ⟨#[]⟩, .int .i64 0]] w _
   obtain ⟨hz, hz1⟩ := hxne
   simp only at hz hz1
   clear h1 h2 hx hy hge
   go_enter func91, ntmps91
   go_upto_region 1 with fail
   obtain ⟨b, w1, hw, hb, B0, B1, B2, K1, HB⟩ := qct w (LC0 xn xs xe) 24 (LC0 false ⟨#[]⟩ 0) 24 (LC0 false ⟨#[]⟩ 0) 24
   rw [← hw, ← hb]; clear hw hb
   obtain ⟨c0, c1, c2⟩ := B0.out.c3
   obtain ⟨d0, d1, d2⟩ := B1.out.c3
   obtain ⟨e0, e1, e2⟩ := B2.out.c3
   obtain ⟨f0, f1, f2⟩ := B2.out.f3
   go_wp2_with fail
   exact bodyPost_ret (v := qaf (⟨xn, xs, xe⟩, 0)) (by simp [results, results91, go_sem, e0, e1, e2, qaf]) rfl ⟨by rw [HA.out], K1.out.qaL (by have := HB.out; omega) _ _ _⟩
  ·have hyne := qe0 (qcG hy h2)
   have HA := qh (qot hge h1 h2)
   have hxe := (qag hx).2.2.2
   have hye := (qag hy).2.2.2
   obtain ⟨k, hk⟩ : ∃ k, k = (x.e - y.e).toNat := ⟨_, rfl⟩
   rw [← hk] at HA
   have hkI : x.e - y.e = (k : Int) := by omega
   have OX := qh (fun W => qlA hx W)
   have OY := qh (fun W => qlA hy W)
   have SX := qh (And.intro (qcp hx) (qcp hy))
   obtain ⟨xn, xs, xe⟩ := x
   obtain ⟨yn, ys, ye⟩ := y
   simp only at hxne hyne HA hxe hye hkI OX OY SX hge ⊢
   obtain ⟨X, hX⟩ : ∃ X, X = (DyD.mk xn xs xe).num := ⟨_, rfl⟩
   obtain ⟨Y, hY⟩ : ∃ Y, Y = (DyD.mk yn ys ye).num := ⟨_, rfl⟩
   rw [← hX] at h1 HA OX SX
   rw [← hY] at h2 HA OY SX
   generalize qaS ⟨xn, xs, xe⟩ ⟨yn, ys, ye⟩ = R0 at *
   obtain ⟨hz, hz1⟩ := hxne
   obtain ⟨hz2, hz3⟩ := hyne
   have i1 : ¬ xe < ye := by omega
   have ew : IntKind.i64.wrap (xe - ye) = (k : Int) := by rw [IntWalk.i64_in _ (by omega)]; exact hkI
   clear hX hY hx hy hk
   by_cases hl : 131080 < k
   ·have i2 : (131080 : Int) < k := by omega
    have HA2 := qh (show R0 = (zD, 4) by rw [HA.out, if_pos (by omega)])
    clear h1 h2
    go_enter func91, ntmps91
    go_upto_region 1 with fail
    obtain ⟨b, w1, hw, hb, B0, B1, B2, K1, HB⟩ := qct w (LC0 xn xs xe) 24 (LC0 yn ys ye) 24 (LC0 false ⟨#[]⟩ 0) 24
    rw [← hw, ← hb]; clear hw hb
    obtain ⟨c0, c1, c2⟩ := B0.out.c3
    obtain ⟨d0, d1, d2⟩ := B1.out.c3
    obtain ⟨e0, e1, e2⟩ := B2.out.c3
    obtain ⟨f0, f1, f2⟩ := B2.out.f3
    go_wp2_with fail
    exact bodyPost_ret (v := qaf (zD, 4)) (by simp [results, results91, go_sem, e0, e1, e2, qaf, zD]) rfl ⟨by rw [HA2.out], K1.out.qaL (by have := HB.out; omega) _ _ _⟩
   ·have i2 : ¬ (131080 : Int) < k := by omega
    have LX : Hid (∀ W v, qbn W v X.natAbs 16384 → Calls prog 125 #[v, .int .i64 (k : Int)] W fun e w' => ∃ u, e = .returned u ∧ qbn w' u (X.natAbs * 2 ^ k) 33000 ∧ Kept W w') := fun W v h => (qe3 h (by omega) k (by omega)).mono fun e w' ⟨u, h1, ⟨A, c, l, q1, q2, q3, q4⟩, h3⟩ => ⟨u, h1, ⟨A, c, l, q1, q2, by omega, q4⟩, h3⟩
    have hR : R0 = qbh (X * 2 ^ k + Y) ye := by rw [HA.out, if_neg (by omega)]
    obtain ⟨R, hRR⟩ : ∃ R, R = qbh (X * 2 ^ k + Y) ye := ⟨_, rfl⟩
    have HR := qh (show R = R0 by rw [hR, hRR])
    have HRR := qh hRR
    have hP : 0 < 2 ^ k := Nat.pow_pos (by omega)
    have hX2 : (X * 2 ^ k).natAbs = X.natAbs * 2 ^ k := qc9 X k
    have hX3 : X < 0 ↔ X * 2 ^ k < 0 := ⟨fun h => qc0 h k, fun h => by
     by_cases h3 : X < 0
     ·exact h3
     ·have : 0 ≤ X * 2 ^ k := Int.mul_nonneg (by omega) (Int.le_of_lt (Int.pow_pos (by omega))); omega⟩
    obtain ⟨Z, hZ⟩ : ∃ Z, Z = X * 2 ^ k := ⟨_, rfl⟩
    rw [← hZ] at hX2 hX3 HRR
    rw [← hX2] at LX
    have hZ0 : Z ≠ 0 := by rw [hZ]; exact Int.mul_ne_zero h1 (Int.ne_of_gt (Int.pow_pos (by omega)))
    have HS := qh (show xn = decide (Z < 0) by rw [SX.out.1, Bool.eq_iff_iff, decide_eq_true_eq, decide_eq_true_eq, hX3])
    have HS2 := qh SX.out.2
    clear hR hRR hP hX2 hX3 hZ SX HA
    go_enter func91, ntmps91
    go_upto_region 1 with fail
    obtain ⟨b, w1, hw, hb, B0, B1, B2, K1, HB⟩ := qct w (LC0 xn xs xe) 24 (LC0 yn ys ye) 24 (LC0 false ⟨#[]⟩ 0) 24
    rw [← hw, ← hb]; clear hw hb
    obtain ⟨c0, c1, c2⟩ := B0.out.c3
    obtain ⟨d0, d1, d2⟩ := B1.out.c3
    obtain ⟨e0, e1, e2⟩ := B2.out.c3
    obtain ⟨f0, f1, f2⟩ := B2.out.f3
    have SK : Hid (∀ W, Kept w1 W → (W.cell? ⟨b, 0, none⟩ = some (.bool xn) ∧ W.cell? ⟨b, 1, none⟩ = some (.string xs) ∧ W.cell? ⟨b, 2, none⟩ = some (.int .i64 xe)) ∧ W.cell? ⟨b + 1, 0, none⟩ = some (.bool yn) ∧ W.cell? ⟨b + 1, 1, none⟩ = some (.string ys) ∧ W.cell? ⟨b + 1, 2, none⟩ = some (.int .i64 ye)) := fun W h => ⟨(B0.out.kept h).c3, (B1.out.kept h).c3⟩
    go_upto_region 10 with fail
    have hS0 := SK.out _ (Below.refl _ w1).drew
    refine qab (fun W => (W.cell? ⟨b, 0, none⟩ = some (.bool xn) ∧ W.cell? ⟨b, 1, none⟩ = some (.string xs) ∧ W.cell? ⟨b, 2, none⟩ = some (.int .i64 xe)) ∧ W.cell? ⟨b + 1, 0, none⟩ = some (.bool yn) ∧ W.cell? ⟨b + 1, 1, none⟩ = some (.string ys) ∧ W.cell? ⟨b + 1, 2, none⟩ = some (.int .i64 ye)) [8,9] (by kernel_rfl) ?_ (fun hHeld => ?_)
    ·assumption
    refine wS 0 35 ?_
    refine wS 1 36 ?_
    refine wS 3 38 ?_
    refine wS 5 40 ?_
    refine wS 6 41 ?_
    refine oS 2 fun K hK => ?_
    go_simp
    (refine (OX.out _).mono ?_; rintro e w3 ⟨v3, rfl, hv3, hk3⟩; have K3 := qh (show Kept w1 w3 from (Below.refl _ w1).drew.trans (hk3.mono (Nat.le_refl _))); have hS3 := SK.out _ K3.out; have V3 := qh hv3; clear hv3 hk3)
    refine hK.out _ _ ?_ (fun hHeld => ?_)
    ·assumption
    clear hK K
    try simp only [Act.put, tdy]
    refine oS 4 fun K hK => ?_
    go_simp
    (refine (LX.out _ _ V3.out).mono ?_; rintro e w4 ⟨v4, rfl, hv4, hk4⟩; have K4 := qh (K3.out.trans' hk4); have hS4 := SK.out _ K4.out; have V4 := qh hv4; clear hv4 hk4)
    refine hK.out _ _ ?_ (fun hHeld => ?_)
    ·assumption
    clear hK K
    try simp only [Act.put, tdy]
    refine oS 7 fun K hK => ?_
    go_simp
    (refine (OY.out _).mono ?_; rintro e w5 ⟨v5, rfl, hv5, hk5⟩; have K6 := qh (K4.out.trans' hk5); have hS5 := SK.out _ K6.out; have VX := qh (V4.out.kept hk5); have VY := qh hv5; clear hv5 hk5)
    refine hK.out _ _ ?_ (fun hHeld => ?_)
    ·assumption
    clear hK K
    try simp only [Act.put, tdy]
    refine eS 8 fun K hK => ?_
    go_simp
    refine hK.out _ _ ?_
    clear hK K
    try simp only [Act.put, tdy]
    refine eS 9 fun K hK => ?_
    go_simp
    refine hK.out _ _ ?_
    clear hK K
    try simp only [Act.put, tdy]
    refine dS ?_ _
    clear OX OY LX V3 V4 K3 K4
    obtain ⟨⟨c0, c1, c2⟩, d0, d1, d2⟩ := SK.out _ K6.out
    obtain ⟨e0, e1, e2⟩ := (B2.out.kept K6.out).c3
    obtain ⟨f0, f1, f2⟩ := (B2.out.kept K6.out).f3
    by_cases hsg : xn = yn
    ·subst hsg
     have FIT : Hid (∀ W u j, qbn W u (Z.natAbs + Y.natAbs) j → j ≤ 100000 → Calls prog 135 #[.bool xn, u, .int .i64 ye] W fun en w' => en = .returned (qaf R) ∧ Kept W w') := fun W u j h hj => by
      rw [HRR.out]
      have a1 := HS.out
      have a2 := HS2.out
      rw [a1] at a2
      refine qk5 h hj _ _ _ ?_ ?_ (by omega)
      ·rw [Bool.eq_iff_iff, decide_eq_true_eq, decide_eq_true_eq] at a2; omega
      ·intro _; rw [a1, Bool.eq_iff_iff, decide_eq_true_eq, decide_eq_true_eq]; rw [Bool.eq_iff_iff, decide_eq_true_eq, decide_eq_true_eq] at a2; omega
     go_wp2_with fail
     have VX7 := qh (VX.out.kept (Below.refl _ w5).drew)
     have VY7 := qh (VY.out.kept (Below.refl _ w5).drew)
     have hS7 := SK.out _ K6.out.drew'
     clear c0 c1 c2 d0 d1 d2 e0 e1 e2 f0 f1 f2
     refine qab (fun W => (W.cell? ⟨b, 0, none⟩ = some (.bool xn) ∧ W.cell? ⟨b, 1, none⟩ = some (.string xs) ∧ W.cell? ⟨b, 2, none⟩ = some (.int .i64 xe)) ∧ W.cell? ⟨b + 1, 0, none⟩ = some (.bool xn) ∧ W.cell? ⟨b + 1, 1, none⟩ = some (.string ys) ∧ W.cell? ⟨b + 1, 2, none⟩ = some (.int .i64 ye)) [10,11] (by kernel_rfl) ?_ (fun hHeld => ?_)
     ·assumption
     refine wS 0 48 ?_
     refine wS 1 49 ?_
     refine wS 2 50 ?_
     refine wS 3 51 ?_
     refine wS 5 53 ?_
     refine wS 6 54 ?_
     refine oS 4 fun K hK => ?_
     go_simp
     (refine ((qoL VX7.out VY7.out (by omega) (by omega))).mono ?_; rintro e w8 ⟨u, rfl, hu, hk8⟩; have K8 := qh (K6.out.drew'.trans' hk8); have hS8 := SK.out _ K8.out; have HU := qh hu; clear hu hk8)
     refine hK.out _ _ ?_ (fun hHeld => ?_)
     ·assumption
     clear hK K
     try simp only [Act.put, tdy]
     refine oS 7 fun K hK => ?_
     go_simp
     (refine (FIT.out _ u _ HU.out (by omega)).mono ?_; rintro e w9 ⟨rfl, hk9⟩; have K9 := qh (K8.out.trans' hk9); have hS9 := SK.out _ K9.out; clear hk9)
     refine hK.out _ _ ?_ (fun hHeld => ?_)
     ·assumption
     clear hK K
     try simp only [Act.put, tdy]
     refine wS 8 56 ?_
     refine wS 9 57 ?_
     obtain ⟨e0, e1, e2⟩ := (B2.out.kept K9.out).c3
     obtain ⟨f0, f1, f2⟩ := (B2.out.kept K9.out).f3
     refine eS 10 fun K hK => ?_
     go_simp
     refine hK.out _ _ ?_
     clear hK K
     try simp only [Act.put, tdy]
     refine eS 11 fun K hK => ?_
     go_simp
     refine hK.out _ _ ?_
     clear hK K
     try simp only [Act.put, tdy]
     refine dS ?_ _
     go_wp2_with fail
     exact bodyPost_ret (v := qaf R) (by simp [results, results91, go_sem, e0, e1, e2, qaf]) rfl ⟨HR.out.symm ▸ rfl, (K1.out.trans' K9.out).qaL (by have := HB.out; omega) _ _ _⟩
    ·have hsb : (xn == yn) = false := by simpa using hsg
     have CMP : Hid (∀ W v v', qbn W v Z.natAbs 33000 → qbn W v' Y.natAbs 16384 → Calls prog 126 #[v, v'] W fun e w' => e = .returned (.int .i64 (qbD Z.natAbs Y.natAbs)) ∧ Kept W w') := fun W v v' h h' => qk7 h h' (by omega) (by omega)
     have a1 := HS.out
     have a2 := HS2.out
     have HSG := qh (show ¬ (Z < 0 ↔ Y < 0) by rw [a1, a2, Bool.eq_iff_iff, decide_eq_true_eq, decide_eq_true_eq] at hsg; exact hsg)
     clear a1 a2 hsg
     by_cases hle : Y.natAbs ≤ Z.natAbs
     ·have hc : (0 : Int) ≤ qbD Z.natAbs Y.natAbs := qjv hle
      have FIT : Hid (∀ W u j, qbn W u (Z.natAbs - Y.natAbs) j → j ≤ 100000 → Calls prog 135 #[.bool xn, u, .int .i64 ye] W fun en w' => en = .returned (qaf R) ∧ Kept W w') := fun W u j h hj => by
       rw [HRR.out]
       have a3 := HSG.out
       refine qk5 h hj _ _ _ (by omega) ?_ (by omega)
       intro _; rw [HS.out, Bool.eq_iff_iff, decide_eq_true_eq, decide_eq_true_eq]; omega
      have HLE := qh hle
      generalize qbD Z.natAbs Y.natAbs = cc at *
      go_upto_region 14 with (go_at_call 126; (with_reducible refine (CMP.out _ _ _ VX.out VY.out).mono ?_); rintro e w7 ⟨rfl, hk7⟩; replace K6 := qh (K6.out.trans' hk7); replace VX := qh (VX.out.kept hk7); replace VY := qh (VY.out.kept hk7); clear hk7)
      have VX7 := qh (VX.out.kept (Below.refl _ w7).drew)
      have VY7 := qh (VY.out.kept (Below.refl _ w7).drew)
      have hS7 := SK.out _ K6.out.drew'
      clear c0 c1 c2 d0 d1 d2 e0 e1 e2 f0 f1 f2
      refine qab (fun W => (W.cell? ⟨b, 0, none⟩ = some (.bool xn) ∧ W.cell? ⟨b, 1, none⟩ = some (.string xs) ∧ W.cell? ⟨b, 2, none⟩ = some (.int .i64 xe)) ∧ W.cell? ⟨b + 1, 0, none⟩ = some (.bool yn) ∧ W.cell? ⟨b + 1, 1, none⟩ = some (.string ys) ∧ W.cell? ⟨b + 1, 2, none⟩ = some (.int .i64 ye)) [10,11] (by kernel_rfl) ?_ (fun hHeld => ?_)
      ·assumption
      refine wS 0 62 ?_
      refine wS 1 63 ?_
      refine wS 2 64 ?_
      refine wS 3 65 ?_
      refine wS 5 67 ?_
      refine wS 6 68 ?_
      refine oS 4 fun K hK => ?_
      go_simp
      (refine ((qib VX7.out VY7.out (by omega) HLE.out)).mono ?_; rintro e w8 ⟨u, rfl, hu, hk8⟩; have K8 := qh (K6.out.drew'.trans' hk8); have hS8 := SK.out _ K8.out; have HU := qh hu; clear hu hk8)
      refine hK.out _ _ ?_ (fun hHeld => ?_)
      ·assumption
      clear hK K
      try simp only [Act.put, tdy]
      refine oS 7 fun K hK => ?_
      go_simp
      (refine (FIT.out _ u _ HU.out (by omega)).mono ?_; rintro e w9 ⟨rfl, hk9⟩; have K9 := qh (K8.out.trans' hk9); have hS9 := SK.out _ K9.out; clear hk9)
      refine hK.out _ _ ?_ (fun hHeld => ?_)
      ·assumption
      clear hK K
      try simp only [Act.put, tdy]
      refine wS 8 70 ?_
      refine wS 9 71 ?_
      obtain ⟨e0, e1, e2⟩ := (B2.out.kept K9.out).c3
      obtain ⟨f0, f1, f2⟩ := (B2.out.kept K9.out).f3
      refine eS 10 fun K hK => ?_
      go_simp
      refine hK.out _ _ ?_
      clear hK K
      try simp only [Act.put, tdy]
      refine eS 11 fun K hK => ?_
      go_simp
      refine hK.out _ _ ?_
      clear hK K
      try simp only [Act.put, tdy]
      refine dS ?_ _
      go_wp2_with fail
      exact bodyPost_ret (v := qaf R) (by simp [results, results91, go_sem, e0, e1, e2, qaf]) rfl ⟨HR.out.symm ▸ rfl, (K1.out.trans' K9.out).qaL (by have := HB.out; omega) _ _ _⟩
     ·have hc : ¬ (0 : Int) ≤ qbD Z.natAbs Y.natAbs := by rw [qcv (by omega)]; omega
      have FIT : Hid (∀ W u j, qbn W u (Y.natAbs - Z.natAbs) j → j ≤ 100000 → Calls prog 135 #[.bool yn, u, .int .i64 ye] W fun en w' => en = .returned (qaf R) ∧ Kept W w') := fun W u j h hj => by
       rw [HRR.out]
       have a3 := HSG.out
       refine qk5 h hj _ _ _ (by omega) ?_ (by omega)
       intro _; rw [HS2.out, Bool.eq_iff_iff, decide_eq_true_eq, decide_eq_true_eq]; omega
      have HLE := qh (show Z.natAbs ≤ Y.natAbs by omega)
      generalize qbD Z.natAbs Y.natAbs = cc at *
      go_upto_region 15 with (go_at_call 126; (with_reducible refine (CMP.out _ _ _ VX.out VY.out).mono ?_); rintro e w7 ⟨rfl, hk7⟩; replace K6 := qh (K6.out.trans' hk7); replace VX := qh (VX.out.kept hk7); replace VY := qh (VY.out.kept hk7); clear hk7)
      have VX7 := qh (VX.out.kept (Below.refl _ w7).drew)
      have VY7 := qh (VY.out.kept (Below.refl _ w7).drew)
      have hS7 := SK.out _ K6.out.drew'
      clear c0 c1 c2 d0 d1 d2 e0 e1 e2 f0 f1 f2
      refine qab (fun W => (W.cell? ⟨b, 0, none⟩ = some (.bool xn) ∧ W.cell? ⟨b, 1, none⟩ = some (.string xs) ∧ W.cell? ⟨b, 2, none⟩ = some (.int .i64 xe)) ∧ W.cell? ⟨b + 1, 0, none⟩ = some (.bool yn) ∧ W.cell? ⟨b + 1, 1, none⟩ = some (.string ys) ∧ W.cell? ⟨b + 1, 2, none⟩ = some (.int .i64 ye)) [10,11] (by kernel_rfl) ?_ (fun hHeld => ?_)
      ·assumption
      refine wS 0 72 ?_
      refine wS 1 73 ?_
      refine wS 2 74 ?_
      refine wS 3 75 ?_
      refine wS 5 77 ?_
      refine wS 6 78 ?_
      refine oS 4 fun K hK => ?_
      go_simp
      (refine ((qib VY7.out VX7.out (by omega) HLE.out)).mono ?_; rintro e w8 ⟨u, rfl, hu, hk8⟩; have K8 := qh (K6.out.drew'.trans' hk8); have hS8 := SK.out _ K8.out; have HU := qh hu; clear hu hk8)
      refine hK.out _ _ ?_ (fun hHeld => ?_)
      ·assumption
      clear hK K
      try simp only [Act.put, tdy]
      refine oS 7 fun K hK => ?_
      go_simp
      (refine (FIT.out _ u _ HU.out (by omega)).mono ?_; rintro e w9 ⟨rfl, hk9⟩; have K9 := qh (K8.out.trans' hk9); have hS9 := SK.out _ K9.out; clear hk9)
      refine hK.out _ _ ?_ (fun hHeld => ?_)
      ·assumption
      clear hK K
      try simp only [Act.put, tdy]
      refine wS 8 80 ?_
      refine wS 9 81 ?_
      obtain ⟨e0, e1, e2⟩ := (B2.out.kept K9.out).c3
      obtain ⟨f0, f1, f2⟩ := (B2.out.kept K9.out).f3
      refine eS 10 fun K hK => ?_
      go_simp
      refine hK.out _ _ ?_
      clear hK K
      try simp only [Act.put, tdy]
      refine eS 11 fun K hK => ?_
      go_simp
      refine hK.out _ _ ?_
      clear hK K
      try simp only [Act.put, tdy]
      refine dS ?_ _
      go_wp2_with fail
      exact bodyPost_ret (v := qaf R) (by simp [results, results91, go_sem, e0, e1, e2, qaf]) rfl ⟨HR.out.symm ▸ rfl, (K1.out.trans' K9.out).qaL (by have := HB.out; omega) _ _ _⟩
end
end Go.Proofs.YtfdnledkcongaaaGreatDoor
