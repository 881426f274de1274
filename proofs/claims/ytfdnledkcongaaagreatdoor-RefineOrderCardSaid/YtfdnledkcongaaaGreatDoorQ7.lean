/- Texts of one claim laid together: GaX, Geo, Geb, GaY, RsA, RsB, RsC, VieA, VieB, BxR, VieC. -/
import Derived.Test.YtfdnledkcongaaaGreatDoorQ6
import Derived.Laws.Rows
set_option linter.all false
namespace Go.Proofs.YtfdnledkcongaaaGreatDoor
open Go.RowKit Go.Proofs.Tryz
section
set_option maxHeartbeats 1600000
set_option maxRecDepth 100000
attribute [local go_sem] run_float_arith qaI qaJ qau qah qae
theorem qmo (x : GsD) (w : World) (hx : gsB x = true) (hT : T32 w) :
  Calls prog 68 #[.agg #[.bool x.re.neg, .string x.re.n, .int .i64 x.re.e, .bool x.im.neg, .string x.im.n, .int .i64 x.im.e]] w fun en w' => en = .returned (qaf (qbX x)) ∧ Kept w w' := by
 have DOT : Hid (∀ W, Kept w W → Calls prog 105 #[.agg #[.bool x.re.neg, .string x.re.n, .int .i64 x.re.e, .bool x.im.neg, .string x.im.n, .int .i64 x.im.e], .agg #[.bool x.re.neg, .string x.re.n, .int .i64 x.re.e, .bool x.im.neg, .string x.im.n, .int .i64 x.im.e]] W fun en w' => en = .returned (qaf (qbX x)) ∧ Kept W w') := fun W h => qmR x x W hx hx (hT.kept h)
 generalize qbX x = R at *
 obtain ⟨⟨a0, a1, a2⟩, ⟨a3, a4, a5⟩⟩ := x
 simp only at DOT ⊢
 clear hx hT
 go_enter func68, ntmps68
 go_upto_region 1 with fail
 obtain ⟨b, w1, hw, hb, B0, B1, K1, HB⟩ := qa7 w (LC1 a0 a1 a2 a3 a4 a5) 28 (LC0 false ⟨#[]⟩ 0) 24
 rw [← hw, ← hb]; clear hw hb
 obtain ⟨c0, c1, c2, c3, c4, c5⟩ := B0.out.c6
 go_wp2_with (go_at_call 105; (with_reducible refine (DOT.out _ K1.out).mono ?_); rintro e w3 ⟨rfl, hk3⟩; obtain ⟨d0, d1, d2⟩ := (B1.out.kept hk3).c3; obtain ⟨f0, f1, f2⟩ := (B1.out.kept hk3).f3)
 exact bodyPost_ret (v := qaf R) (by simp [results, results68, go_sem, d0, d1, d2, qaf]) rfl ⟨rfl, (K1.out.trans' hk3).qaL (by have := HB.out; omega) _ _ _⟩
def qbE (x y : Nat) : GsD × Int := if (qa9 x).2 = 0 ∧ (qa9 y).2 = 0 then (⟨(qa9 x).1, (qa9 y).1⟩, 0) else (zG, 5)
theorem qio (x y : Nat) (w : World) (hx : x < 18446744073709551616) (hy : y < 18446744073709551616) (hT : T32 w) :
  Calls prog 66 #[.complex .f64 x y] w fun en w' => en = .returned (qaC (qbE x y)) ∧ Kept w w' := by
 have F1 : Hid (∀ W, Kept w W → Calls prog 101 #[.float .f64 x] W fun en w' => en = .returned (qaf (qa9 x)) ∧ Kept W w') := fun W h => qeY x W hx (hT.kept h)
 have F2 : Hid (∀ W, Kept w W → Calls prog 101 #[.float .f64 y] W fun en w' => en = .returned (qaf (qa9 y)) ∧ Kept W w') := fun W h => qeY y W hy (hT.kept h)
 unfold qbE
 generalize qa9 x = R at *
 generalize qa9 y = Q at *
 obtain ⟨⟨r0, r1, r2⟩, r3⟩ := R
 obtain ⟨⟨q0, q1, q2⟩, q3⟩ := Q
 simp only at F1 F2 ⊢
 clear hx hy hT
 have go : ∀ (v : GsD × Int), v = (if r3 = 0 ∧ q3 = 0 then ((⟨⟨r0, r1, r2⟩, ⟨q0, q1, q2⟩⟩, 0) : GsD × Int) else (zG, 5)) → Calls prog 66 #[.complex .f64 x y] w fun en w' => en = .returned (qaC v) ∧ Kept w w' := by
  intro v hv
  go_enter func66, ntmps66
  go_upto_region 1 with fail
  obtain ⟨b, w1, hw, hb, B0, K1, HB⟩ := qa4 w ZL0 28
  rw [← hw, ← hb]; clear hw hb
  go_upto_region 2 with (go_at_call 101; (with_reducible refine (F1.out _ K1.out).mono ?_); rintro e w3 ⟨rfl, hk3⟩)
  have K4 := qh (Kept.new hk3 (.cells (LC0 r0 r1 r2).toArray 24))
  have B1 := qh (Bx.new w3 (LC0 r0 r1 r2) 24 w3.heap.size rfl)
  obtain ⟨g, hg⟩ : ∃ g, g = w3.heap.size := ⟨_, rfl⟩
  rw [← hg] at B1 ⊢
  clear hg hk3
  generalize (w3.alloc (.cells (LC0 r0 r1 r2).toArray 24)) = w4 at *
  go_upto_region 3 with (go_at_call 101; (with_reducible refine (F2.out _ (K1.out.trans' K4.out)).mono ?_); rintro e w5 ⟨rfl, hk5⟩)
  have K6 := qh (Kept.new (K4.out.trans' hk5) (.cells (LC0 q0 q1 q2).toArray 24))
  have B2 := qh (Bx.new w5 (LC0 q0 q1 q2) 24 w5.heap.size rfl)
  have B3 := qh ((B1.out.kept hk5).kept (Kept.new (Below.refl _ _) (.cells (LC0 q0 q1 q2).toArray 24)))
  obtain ⟨g2, hg2⟩ : ∃ g, g = w5.heap.size := ⟨_, rfl⟩
  rw [← hg2] at B2 ⊢
  clear hg2 hk5 K4 B1 F1 F2
  generalize (w5.alloc (.cells (LC0 q0 q1 q2).toArray 24)) = w6 at *
  obtain ⟨c0, c1, c2⟩ := B3.out.c3
  obtain ⟨d0, d1, d2⟩ := B2.out.c3
  obtain ⟨e0, e1, e2, e3, e4, e5⟩ := (B0.out.kept K6.out).c6
  obtain ⟨f0, f1, f2, f3, f4, f5⟩ := (B0.out.kept K6.out).f6
  have HV := qh hv
  clear hv
  by_cases h1 : r3 = 0
  ·by_cases h2 : q3 = 0
   ·subst h1 h2
    go_wp2_with fail
    exact bodyPost_ret (v := qaC (⟨⟨r0, r1, r2⟩, ⟨q0, q1, q2⟩⟩, 0)) (by simp [results, results66, go_sem, e0, e1, e2, e3, e4, e5, qaC]) rfl ⟨by rw [HV.out]; rfl, (K1.out.trans' K6.out).qdk HB.out _ _ _ _ _ _⟩
   ·subst h1
    go_wp2_with fail
    exact bodyPost_ret (v := qaC (zG, 5)) (by simp [results, results66, go_sem, e0, e1, e2, e3, e4, e5, qaC, zG, zD]) rfl ⟨by rw [HV.out, if_neg (fun h => h2 h.2)], (K1.out.trans' K6.out).qdk HB.out _ _ _ _ _ _⟩
  ·go_wp2_with fail
   exact bodyPost_ret (v := qaC (zG, 5)) (by simp [results, results66, go_sem, e0, e1, e2, e3, e4, e5, qaC, zG, zD]) rfl ⟨by rw [HV.out, if_neg (fun h => h1 h.1)], (K1.out.trans' K6.out).qdk HB.out _ _ _ _ _ _⟩
 exact go _ rfl
theorem qll (x : GsD) (w : World) (hx : gsB x = true) :
  Calls prog 65 #[.agg #[.bool x.re.neg, .string x.re.n, .int .i64 x.re.e, .bool x.im.neg, .string x.im.n, .int .i64 x.im.e]] w fun en w' => en = .returned (.tuple #[.complex .f64 (qaQ x.re) (qaQ x.im), .int .i64 0]) ∧ Kept w w' := by
 have CK := qh (qcs x hx)
 have N1 := qh (fun W => qhO x.re W (qam.1 hx).1)
 have N2 := qh (fun W => qhO x.im W (qam.1 hx).2)
 generalize qaQ x.re = R at *
 generalize qaQ x.im = Q at *
 obtain ⟨⟨a0, a1, a2⟩, ⟨a3, a4, a5⟩⟩ := x
 simp only at CK N1 N2 ⊢
 clear hx
 go_enter func65, ntmps65
 go_upto_region 1 with fail
 obtain ⟨b, w1, hw, hb, B0, K1, HB⟩ := qa4 w (LC1 a0 a1 a2 a3 a4 a5) 28
 rw [← hw, ← hb]; clear hw hb
 obtain ⟨c0, c1, c2, c3, c4, c5⟩ := B0.out.c6
 go_wp2_with (first
  | (go_at_call 18; (with_reducible refine (CK.out _).mono ?_); rintro e w3 ⟨rfl, hk3⟩; have K3 := qh hk3; obtain ⟨c0, c1, c2, c3, c4, c5⟩ := (B0.out.kept K3.out).c6)
  | (go_at_call 100; (with_reducible refine (N1.out _).mono ?_); rintro e w4 ⟨rfl, hk4⟩; have K4 := qh (K3.out.trans' hk4); obtain ⟨c0, c1, c2, c3, c4, c5⟩ := (B0.out.kept K4.out).c6)
  | (go_at_call 100; (with_reducible refine (N2.out _).mono ?_); rintro e w5 ⟨rfl, hk5⟩; have K5 := qh (K4.out.trans' hk5)))
 go_ret2
 exact ⟨rfl, K1.out.trans' K5.out⟩
end
def qo4 (k : Nat) : Int := 2 ^ k
def sv (d : DyD) : Int := d.num * qo4 (d.e + 1048576).toNat
def GsD.x (g : GsD) : Int := sv g.re
def GsD.y (g : GsD) : Int := sv g.im
theorem qgW (a b : GsD) : (qej a b).2 = 0 ∨ qej a b = (zG, 4) := qeG _ _
theorem qfT {f : Nat → Bool} : ∀ (k i j : Nat), i ≤ j → j - i < 2 ^ k → f j = true → f (qaO f k i j) = true ∧ i ≤ qaO f k i j ∧ qaO f k i j ≤ j
 | 0, i, j, h1, h2, h3 => by
  have : i = j := by simp at h2; omega
  subst this
  exact ⟨h3, Nat.le_refl _, Nat.le_refl _⟩
 | k + 1, i, j, h1, h2, h3 => by
  rw [Nat.pow_succ] at h2
  unfold qaO
  by_cases h : i < j
  ·rw [if_pos h]
   by_cases hf : f ((i + j) / 2) = true
   ·rw [if_pos hf]
    have := qfT k i ((i + j) / 2) (by omega) (by omega) hf
    exact ⟨this.1, this.2.1, by omega⟩
   ·rw [if_neg hf]
    have := qfT k ((i + j) / 2 + 1) j (by omega) (by omega) h3
    exact ⟨this.1, by omega, this.2.2⟩
  ·rw [if_neg h]
   have : i = j := by omega
   subst this
   exact ⟨h3, Nat.le_refl _, Nat.le_refl _⟩
theorem qoi {b : Nat} (h : b ≤ qbB) : qbQ b = true := by
 unfold qbQ qaP; unfold qbB at h
 rw [decide_eq_true_eq]; omega
def qen (a b : GsD) (r : DyD) : Int × Int := if (qej a b).2 = 0 ∧ (qbX (qej a b).1).2 = 0 ∧ (mulS r r).2 = 0 then (qbx (qbX (qej a b).1).1 (mulS r r).1, 0) else (0, 4)
def inS (g c : GsD) (r : DyD) : Bool × Int := (decide ((qen g c r).2 = 0) && decide ((qen g c r).1 ≤ 0), (qen g c r).2)
def qeK (c : GsD) (r : DyD) (d : GsD) (s : DyD) : Bool × Int := if 0 < qbx r s then (false, 0) else if (qdG s r).2 = 0 then inS c d (qdG s r).1 else (false, 4)
def qfS (c : GsD) (r : DyD) (d : GsD) (s : DyD) : Bool × Int := if (qaS r s).2 = 0 then (decide ((qen c d (qaS r s).1).2 = 0) && decide (0 < (qen c d (qaS r s).1).1), (qen c d (qaS r s).1).2) else (false, 4)
section
set_option maxHeartbeats 3200000
set_option maxRecDepth 100000
theorem qhC (p q : DyD) (w : World) (hp : p.ok) (hq : q.ok) :
  Calls prog 62 #[.agg #[.bool p.neg, .string p.n, .int .i64 p.e, .bool q.neg, .string q.n, .int .i64 q.e]] w fun e w' => e = .returned (.bool (qad p && qad q)) ∧ Kept w w' := by
 have CP := qh (fun (W : World) => qdW p W hp)
 have CQ := qh (fun (W : World) => qdW q W hq)
 generalize qad p = bp at *
 generalize qad q = bq at *
 obtain ⟨p0, p1, p2⟩ := p
 obtain ⟨q0, q1, q2⟩ := q
 simp only at CP CQ ⊢
 clear hp hq
 cases bp with
 | false =>
  go_enter func62, ntmps62
  go_upto_region 1 with fail
  obtain ⟨b, w1, hw, hb, B0, K1, HB⟩ := qa4 w (LC1 p0 p1 p2 q0 q1 q2) 28
  rw [← hw, ← hb]; clear hw hb
  obtain ⟨c0, c1, c2, c3, c4, c5⟩ := B0.out.c6
  go_wp2_with (go_at_call 73; (with_reducible refine (CP.out _).mono ?_); rintro e w2 ⟨rfl, hk2⟩)
  go_ret
  exact ⟨rfl, K1.out.trans' hk2⟩
 | true =>
  go_enter func62, ntmps62
  go_upto_region 1 with fail
  obtain ⟨b, w1, hw, hb, B0, K1, HB⟩ := qa4 w (LC1 p0 p1 p2 q0 q1 q2) 28
  rw [← hw, ← hb]; clear hw hb
  obtain ⟨c0, c1, c2, c3, c4, c5⟩ := B0.out.c6
  go_wp2_with fail
  (with_reducible refine (CP.out _).mono ?_)
  rintro e w2 ⟨rfl, hk2⟩
  obtain ⟨c0, c1, c2, c3, c4, c5⟩ := (B0.out.kept hk2).c6
  have K2 := qh hk2
  clear hk2 CP
  go_wp2_with fail
  (with_reducible refine (CQ.out _).mono ?_)
  rintro e w3 ⟨rfl, hk3⟩
  go_wp2_with fail
  go_ret
  exact ⟨by simp, (K1.out.trans' K2.out).trans' hk3⟩
theorem qfm (x y : Nat) (w : World) (hx : x < 18446744073709551616) (hy : y < 18446744073709551616) :
  Calls prog 78 #[.complex .f64 x y] w fun en w' => en = .returned (qaC (qbE x y)) ∧ Kept w w' := by
 have F1 : Hid (∀ W, Calls prog 118 #[.float .f64 x] W fun en w' => en = .returned (qaf (qa9 x)) ∧ Kept W w') := fun W => qd6 x W hx
 have F2 : Hid (∀ W, Calls prog 118 #[.float .f64 y] W fun en w' => en = .returned (qaf (qa9 y)) ∧ Kept W w') := fun W => qd6 y W hy
 unfold qbE
 generalize qa9 x = R at *
 generalize qa9 y = Q at *
 obtain ⟨⟨r0, r1, r2⟩, r3⟩ := R
 obtain ⟨⟨q0, q1, q2⟩, q3⟩ := Q
 simp only at F1 F2 ⊢
 clear hx hy
 obtain ⟨v, hv⟩ : ∃ v : GsD × Int, v = (if r3 = 0 ∧ q3 = 0 then ((⟨⟨r0, r1, r2⟩, ⟨q0, q1, q2⟩⟩, 0) : GsD × Int) else (zG, 5)) := ⟨_, rfl⟩
 rw [← hv]
 have HV := qh hv
 clear hv
 go_enter func78, ntmps78
 go_upto_region 1 with fail
 obtain ⟨b, w1, hw, hb, B0, K1, HB⟩ := qa4 w ZL0 28
 rw [← hw, ← hb]; clear hw hb
 go_upto_region 2 with (go_at_call 118; (with_reducible refine (F1.out _).mono ?_); rintro e w3 ⟨rfl, hk3⟩)
 have K4 := qh (Kept.new hk3 (.cells (LC0 r0 r1 r2).toArray 24))
 have B1 := qh (Bx.new w3 (LC0 r0 r1 r2) 24 w3.heap.size rfl)
 obtain ⟨g, hg⟩ : ∃ g, g = w3.heap.size := ⟨_, rfl⟩
 rw [← hg] at B1 ⊢
 clear hg hk3
 generalize (w3.alloc (.cells (LC0 r0 r1 r2).toArray 24)) = w4 at *
 go_upto_region 3 with (go_at_call 118; (with_reducible refine (F2.out _).mono ?_); rintro e w5 ⟨rfl, hk5⟩)
 have K6 := qh (Kept.new (K4.out.trans' hk5) (.cells (LC0 q0 q1 q2).toArray 24))
 have B2 := qh (Bx.new w5 (LC0 q0 q1 q2) 24 w5.heap.size rfl)
 replace B1 := qh ((B1.out.kept hk5).kept (Kept.new (Below.refl _ _) (.cells (LC0 q0 q1 q2).toArray 24)))
 obtain ⟨g2, hg⟩ : ∃ g, g = w5.heap.size := ⟨_, rfl⟩
 rw [← hg] at B2 ⊢
 clear hg hk5
 generalize (w5.alloc (.cells (LC0 q0 q1 q2).toArray 24)) = w6 at *
 clear F1 F2
 obtain ⟨c0, c1, c2⟩ := B1.out.c3
 obtain ⟨d0, d1, d2⟩ := B2.out.c3
 obtain ⟨e0, e1, e2, e3, e4, e5⟩ := (B0.out.kept K6.out).c6
 obtain ⟨f0, f1, f2, f3, f4, f5⟩ := (B0.out.kept K6.out).f6
 by_cases h1 : r3 = 0
 ·by_cases h2 : q3 = 0
  ·subst h1 h2
   go_wp2_with fail
   exact bodyPost_ret (v := qaC (⟨⟨r0, r1, r2⟩, ⟨q0, q1, q2⟩⟩, 0)) (by simp [results, results78, go_sem, e0, e1, e2, e3, e4, e5, qaC]) rfl ⟨by rw [HV.out]; rfl, (K1.out.trans' K6.out).qdk HB.out _ _ _ _ _ _⟩
  ·subst h1
   go_wp2_with fail
   exact bodyPost_ret (v := qaC (zG, 5)) (by simp [results, results78, go_sem, e0, e1, e2, e3, e4, e5, qaC, zG, zD]) rfl ⟨by rw [HV.out, if_neg (fun h => h2 h.2)], (K1.out.trans' K6.out).qdk HB.out _ _ _ _ _ _⟩
 ·go_wp2_with fail
  exact bodyPost_ret (v := qaC (zG, 5)) (by simp [results, results78, go_sem, e0, e1, e2, e3, e4, e5, qaC, zG, zD]) rfl ⟨by rw [HV.out, if_neg (fun h => h1 h.1)], (K1.out.trans' K6.out).qdk HB.out _ _ _ _ _ _⟩
theorem qks (x : GsD) (w : World) (hx : gsB x = true) :
  Calls prog 77 #[.agg #[.bool x.re.neg, .string x.re.n, .int .i64 x.re.e, .bool x.im.neg, .string x.im.n, .int .i64 x.im.e]] w fun en w' => en = .returned (.complex .f64 (qaQ x.re) (qaQ x.im)) ∧ Kept w w' := by
 have N1 := qh (fun W => qfN x.re W (qam.1 hx).1)
 have N2 := qh (fun W => qfN x.im W (qam.1 hx).2)
 generalize qaQ x.re = R at *
 generalize qaQ x.im = Q at *
 obtain ⟨⟨a0, a1, a2⟩, ⟨a3, a4, a5⟩⟩ := x
 simp only at N1 N2 ⊢
 clear hx
 go_enter func77, ntmps77
 go_upto_region 1 with fail
 obtain ⟨b, w1, hw, hb, B0, K1, HB⟩ := qa4 w (LC1 a0 a1 a2 a3 a4 a5) 28
 rw [← hw, ← hb]; clear hw hb
 obtain ⟨c0, c1, c2, c3, c4, c5⟩ := B0.out.c6
 have SK : Hid (∀ W, Kept w1 W → W.cell? ⟨b, 0, none⟩ = some (.bool a0) ∧ W.cell? ⟨b, 1, none⟩ = some (.string a1) ∧ W.cell? ⟨b, 2, none⟩ = some (.int .i64 a2) ∧ W.cell? ⟨b, 3, none⟩ = some (.bool a3) ∧ W.cell? ⟨b, 4, none⟩ = some (.string a4) ∧ W.cell? ⟨b, 5, none⟩ = some (.int .i64 a5)) := fun W h => (B0.out.kept h).c6
 have hS0 := SK.out _ (Below.refl _ w1).drew
 refine qab (fun W => W.cell? ⟨b, 0, none⟩ = some (.bool a0) ∧ W.cell? ⟨b, 1, none⟩ = some (.string a1) ∧ W.cell? ⟨b, 2, none⟩ = some (.int .i64 a2) ∧ W.cell? ⟨b, 3, none⟩ = some (.bool a3) ∧ W.cell? ⟨b, 4, none⟩ = some (.string a4) ∧ W.cell? ⟨b, 5, none⟩ = some (.int .i64 a5)) [7] (by kernel_rfl) ?_ (fun hHeld => ?_)
 ·assumption
 refine wS 0 3 ?_
 refine wS 1 4 ?_
 refine wS 3 6 ?_
 refine wS 4 7 ?_
 refine oS 2 fun K hK => ?_
 go_simp
 (refine (N1.out _).mono ?_; rintro e w3 ⟨rfl, hk3⟩; have K3 := qh (show Kept w1 w3 from (Below.refl _ w1).drew.trans (hk3.mono (Nat.le_refl _))); have hS3 := SK.out _ K3.out; clear hk3)
 refine hK.out _ _ ?_ (fun hHeld => ?_)
 ·assumption
 clear hK K
 try simp only [Act.put, tdy]
 refine oS 5 fun K hK => ?_
 go_simp
 (refine (N2.out _).mono ?_; rintro e w4 ⟨rfl, hk4⟩; have K4 := qh (K3.out.trans' hk4); have hS4 := SK.out _ K4.out; clear hk4)
 refine hK.out _ _ ?_ (fun hHeld => ?_)
 ·assumption
 clear hK K
 try simp only [Act.put, tdy]
 refine wS 6 9 ?_
 refine eS 7 fun K hK => ?_
 go_simp
 refine hK.out _ _ ?_
 clear hK K
 try simp only [Act.put, tdy]
 refine dS ?_ _
 go_wp2_with fail
 go_ret
 exact ⟨rfl, K1.out.trans' K4.out⟩
theorem qlc (x : GsD) (w : World) (hx : gsB x = true) :
  Calls prog 120 #[.agg #[.bool x.re.neg, .string x.re.n, .int .i64 x.re.e, .bool x.im.neg, .string x.im.n, .int .i64 x.im.e]] w fun en w' => en = .returned (.agg #[.bool (negS x.re).neg, .string (negS x.re).n, .int .i64 (negS x.re).e, .bool (negS x.im).neg, .string (negS x.im).n, .int .i64 (negS x.im).e]) ∧ Kept w w' := by
 have N1 := qh (fun W => qhj x.re W (qam.1 hx).1)
 have N2 := qh (fun W => qhj x.im W (qam.1 hx).2)
 generalize negS x.re = R at *
 generalize negS x.im = Q at *
 obtain ⟨⟨a0, a1, a2⟩, ⟨a3, a4, a5⟩⟩ := x
 obtain ⟨r0, r1, r2⟩ := R
 obtain ⟨q0, q1, q2⟩ := Q
 simp only at N1 N2 ⊢
 clear hx
 go_enter func120, ntmps120
 go_upto_region 1 with fail
 obtain ⟨b, w1, hw, hb, B0, B1, K1, HB⟩ := qa7 w (LC1 a0 a1 a2 a3 a4 a5) 28 ZL0 28
 rw [← hw, ← hb]; clear hw hb
 obtain ⟨c0, c1, c2, c3, c4, c5⟩ := B0.out.c6
 have SK : Hid (∀ W, Kept w1 W → W.cell? ⟨b, 0, none⟩ = some (.bool a0) ∧ W.cell? ⟨b, 1, none⟩ = some (.string a1) ∧ W.cell? ⟨b, 2, none⟩ = some (.int .i64 a2) ∧ W.cell? ⟨b, 3, none⟩ = some (.bool a3) ∧ W.cell? ⟨b, 4, none⟩ = some (.string a4) ∧ W.cell? ⟨b, 5, none⟩ = some (.int .i64 a5)) := fun W h => (B0.out.kept h).c6
 have hS0 := SK.out _ (Below.refl _ w1).drew
 refine qab (fun W => W.cell? ⟨b, 0, none⟩ = some (.bool a0) ∧ W.cell? ⟨b, 1, none⟩ = some (.string a1) ∧ W.cell? ⟨b, 2, none⟩ = some (.int .i64 a2) ∧ W.cell? ⟨b, 3, none⟩ = some (.bool a3) ∧ W.cell? ⟨b, 4, none⟩ = some (.string a4) ∧ W.cell? ⟨b, 5, none⟩ = some (.int .i64 a5)) [7] (by kernel_rfl) ?_ (fun hHeld => ?_)
 ·assumption
 refine wS 0 3 ?_
 refine wS 1 4 ?_
 refine wS 3 6 ?_
 refine wS 4 7 ?_
 refine oS 2 fun K hK => ?_
 go_simp
 (refine (N1.out _).mono ?_; rintro e w3 ⟨rfl, hk3⟩; have K3 := qh (show Kept w1 w3 from (Below.refl _ w1).drew.trans (hk3.mono (Nat.le_refl _))); have hS3 := SK.out _ K3.out; clear hk3)
 refine hK.out _ _ ?_ (fun hHeld => ?_)
 ·assumption
 clear hK K
 try simp only [Act.put, tdy]
 refine oS 5 fun K hK => ?_
 go_simp
 (refine (N2.out _).mono ?_; rintro e w4 ⟨rfl, hk4⟩; have K4 := qh (K3.out.trans' hk4); have hS4 := SK.out _ K4.out; clear hk4)
 refine hK.out _ _ ?_ (fun hHeld => ?_)
 ·assumption
 clear hK K
 try simp only [Act.put, tdy]
 refine wS 6 9 ?_
 obtain ⟨e0, e1, e2, e3, e4, e5⟩ := (B1.out.kept K4.out).c6
 obtain ⟨f0, f1, f2, f3, f4, f5⟩ := (B1.out.kept K4.out).f6
 refine eS 7 fun K hK => ?_
 go_simp
 refine hK.out _ _ ?_
 clear hK K
 try simp only [Act.put, tdy]
 refine dS ?_ _
 go_wp2_with fail
 exact bodyPost_ret (v := .agg #[.bool r0, .string r1, .int .i64 r2, .bool q0, .string q1, .int .i64 q2]) (by simp [results, results120, go_sem, e0, e1, e2, e3, e4, e5]) rfl ⟨rfl, (K1.out.trans' K4.out).qdk (by have := HB.out; omega) _ _ _ _ _ _⟩
theorem qlb (R Q : DyD × Int) (w : World) :
  Calls prog 158 #[.agg #[.bool R.1.neg, .string R.1.n, .int .i64 R.1.e], .int .i64 R.2, .agg #[.bool Q.1.neg, .string Q.1.n, .int .i64 Q.1.e], .int .i64 Q.2] w fun en w' => en = .returned (qaC (qaF R Q)) ∧ Kept w w' := by
 obtain ⟨v, hv⟩ : ∃ v : GsD × Int, v = qaF R Q := ⟨_, rfl⟩
 rw [← hv]
 have HV := qh hv
 clear hv
 obtain ⟨⟨r0, r1, r2⟩, r3⟩ := R
 obtain ⟨⟨q0, q1, q2⟩, q3⟩ := Q
 dsimp only
 go_enter func158, ntmps158
 go_upto_region 1 with fail
 obtain ⟨b, w1, hw, hb, B0, B1, B2, K1, HB⟩ := qct w (LC0 r0 r1 r2) 24 (LC0 q0 q1 q2) 24 ZL0 28
 rw [← hw, ← hb]; clear hw hb
 obtain ⟨c0, c1, c2⟩ := B0.out.c3
 obtain ⟨d0, d1, d2⟩ := B1.out.c3
 obtain ⟨e0, e1, e2, e3, e4, e5⟩ := B2.out.c6
 obtain ⟨f0, f1, f2, f3, f4, f5⟩ := B2.out.f6
 by_cases h1 : r3 = 0
 ·by_cases h2 : q3 = 0
  ·subst h1 h2
   go_wp2_with fail
   exact bodyPost_ret (v := qaC (⟨⟨r0, r1, r2⟩, ⟨q0, q1, q2⟩⟩, 0)) (by simp [results, results158, go_sem, e0, e1, e2, e3, e4, e5, qaC]) rfl ⟨by rw [HV.out]; rfl, K1.out.qdk (by have := HB.out; omega) _ _ _ _ _ _⟩
  ·subst h1
   have HQ := qh h2
   go_wp2_with fail
   exact bodyPost_ret (v := qaC (zG, 4)) (by simp [results, results158, go_sem, e0, e1, e2, e3, e4, e5, qaC, zG, zD]) rfl ⟨by rw [HV.out]; unfold qaF; rw [if_neg (fun h => HQ.out h.2)], K1.out.qdk (by have := HB.out; omega) _ _ _ _ _ _⟩
 ·have HR := qh h1
  go_wp2_with fail
  exact bodyPost_ret (v := qaC (zG, 4)) (by simp [results, results158, go_sem, e0, e1, e2, e3, e4, e5, qaC, zG, zD]) rfl ⟨by rw [HV.out]; unfold qaF; rw [if_neg (fun h => HR.out h.1)], K1.out.qdk (by have := HB.out; omega) _ _ _ _ _ _⟩
end
section
set_option maxHeartbeats 3200000
set_option maxRecDepth 100000
theorem ql9 (x y : GsD) (w : World) (hx : gsB x = true) (hy : gsB y = true) :
  Calls prog 119 #[.agg #[.bool x.re.neg, .string x.re.n, .int .i64 x.re.e, .bool x.im.neg, .string x.im.n, .int .i64 x.im.e], .agg #[.bool y.re.neg, .string y.re.n, .int .i64 y.re.e, .bool y.im.neg, .string y.im.n, .int .i64 y.im.e]] w fun en w' => en = .returned (qaC (qaF (qaS x.re y.re) (qaS x.im y.im))) ∧ Kept w w' := by
 have A1 := qh (fun W => qdX x.re y.re W (qam.1 hx).1 (qam.1 hy).1)
 have A2 := qh (fun W => qdX x.im y.im W (qam.1 hx).2 (qam.1 hy).2)
 generalize qaS x.re y.re = R at *
 generalize qaS x.im y.im = Q at *
 have BO := qh (fun W => qlb R Q W)
 generalize qaF R Q = V at *
 obtain ⟨⟨x0, x1, x2⟩, ⟨x3, x4, x5⟩⟩ := x
 obtain ⟨⟨y0, y1, y2⟩, ⟨y3, y4, y5⟩⟩ := y
 obtain ⟨⟨r0, r1, r2⟩, r3⟩ := R
 obtain ⟨⟨q0, q1, q2⟩, q3⟩ := Q
 simp only at A1 A2 BO ⊢
 clear hx hy
 go_enter func119, ntmps119
 go_upto_region 1 with fail
 obtain ⟨b, w1, hw, hb, B0, B1, B2, K1, HB⟩ := qct w (LC1 x0 x1 x2 x3 x4 x5) 28 (LC1 y0 y1 y2 y3 y4 y5) 28 ZL0 28
 rw [← hw, ← hb]; clear hw hb
 obtain ⟨c0, c1, c2, c3, c4, c5⟩ := B0.out.c6
 obtain ⟨d0, d1, d2, d3, d4, d5⟩ := B1.out.c6
 go_upto_region 2 with (go_at_call 91; (with_reducible refine (A1.out _).mono ?_); rintro e w3 ⟨rfl, hk3⟩)
 have K4 := qh (Kept.new hk3 (.cells (LC0 r0 r1 r2).toArray 24))
 have B3 := qh (Bx.new w3 (LC0 r0 r1 r2) 24 w3.heap.size rfl)
 obtain ⟨g, hg⟩ : ∃ g, g = w3.heap.size := ⟨_, rfl⟩
 rw [← hg] at B3 ⊢
 clear hg hk3
 generalize (w3.alloc (.cells (LC0 r0 r1 r2).toArray 24)) = w4 at *
 clear c0 c1 c2 c3 c4 c5 d0 d1 d2 d3 d4 d5
 obtain ⟨c0, c1, c2, c3, c4, c5⟩ := (B0.out.kept K4.out).c6
 obtain ⟨d0, d1, d2, d3, d4, d5⟩ := (B1.out.kept K4.out).c6
 go_upto_region 3 with (go_at_call 91; (with_reducible refine (A2.out _).mono ?_); rintro e w5 ⟨rfl, hk5⟩)
 have K6 := qh (Kept.new (K4.out.trans' hk5) (.cells (LC0 q0 q1 q2).toArray 24))
 have B4 := qh (Bx.new w5 (LC0 q0 q1 q2) 24 w5.heap.size rfl)
 replace B3 := qh ((B3.out.kept hk5).kept (Kept.new (Below.refl _ _) (.cells (LC0 q0 q1 q2).toArray 24)))
 obtain ⟨g2, hg⟩ : ∃ g, g = w5.heap.size := ⟨_, rfl⟩
 rw [← hg] at B4 ⊢
 clear hg hk5
 generalize (w5.alloc (.cells (LC0 q0 q1 q2).toArray 24)) = w6 at *
 clear c0 c1 c2 c3 c4 c5 d0 d1 d2 d3 d4 d5 A1 A2
 obtain ⟨c0, c1, c2⟩ := B3.out.c3
 obtain ⟨d0, d1, d2⟩ := B4.out.c3
 go_wp2_with (go_at_call 158; (with_reducible refine (BO.out _).mono ?_); rintro e w7 ⟨rfl, hk7⟩; have K7 := qh (K6.out.trans' hk7); obtain ⟨e0, e1, e2, e3, e4, e5⟩ := (B2.out.kept K7.out).c6; obtain ⟨f0, f1, f2, f3, f4, f5⟩ := (B2.out.kept K7.out).f6)
 exact bodyPost_ret (v := qaC V) (by simp [results, results119, go_sem, e0, e1, e2, e3, e4, e5, qaC]) rfl ⟨rfl, (K1.out.trans' K7.out).qdk (by have := HB.out; omega) _ _ _ _ _ _⟩
theorem qhs (x y : GsD) (w : World) (hx : gsB x = true) (hy : gsB y = true) :
  Calls prog 79 #[.agg #[.bool x.re.neg, .string x.re.n, .int .i64 x.re.e, .bool x.im.neg, .string x.im.n, .int .i64 x.im.e], .agg #[.bool y.re.neg, .string y.re.n, .int .i64 y.re.e, .bool y.im.neg, .string y.im.n, .int .i64 y.im.e]] w fun en w' => en = .returned (qaC (qej x y)) ∧ Kept w w' := by
 have NEG := qh (fun W => qlc y W hy)
 have ADD := qh (fun W => ql9 x ⟨negS y.re, negS y.im⟩ W hx (qam.2 ⟨qfi (qam.1 hy).1, qfi (qam.1 hy).2⟩))
 unfold qej qdG
 simp only at ADD
 generalize negS y.re = P at *
 generalize negS y.im = Q at *
 generalize qaF (qaS x.re P) (qaS x.im Q) = V at *
 obtain ⟨⟨x0, x1, x2⟩, ⟨x3, x4, x5⟩⟩ := x
 obtain ⟨⟨y0, y1, y2⟩, ⟨y3, y4, y5⟩⟩ := y
 simp only at NEG ADD ⊢
 clear hx hy
 go_enter func79, ntmps79
 go_upto_region 1 with fail
 obtain ⟨b, w1, hw, hb, B0, B1, B2, K1, HB⟩ := qct w (LC1 x0 x1 x2 x3 x4 x5) 28 (LC1 y0 y1 y2 y3 y4 y5) 28 ZL0 28
 rw [← hw, ← hb]; clear hw hb
 obtain ⟨c0, c1, c2, c3, c4, c5⟩ := B0.out.c6
 obtain ⟨d0, d1, d2, d3, d4, d5⟩ := B1.out.c6
 have SK : Hid (∀ W, Kept w1 W → (W.cell? ⟨b, 0, none⟩ = some (.bool x0) ∧ W.cell? ⟨b, 1, none⟩ = some (.string x1) ∧ W.cell? ⟨b, 2, none⟩ = some (.int .i64 x2) ∧ W.cell? ⟨b, 3, none⟩ = some (.bool x3) ∧ W.cell? ⟨b, 4, none⟩ = some (.string x4) ∧ W.cell? ⟨b, 5, none⟩ = some (.int .i64 x5)) ∧ W.cell? ⟨b + 1, 0, none⟩ = some (.bool y0) ∧ W.cell? ⟨b + 1, 1, none⟩ = some (.string y1) ∧ W.cell? ⟨b + 1, 2, none⟩ = some (.int .i64 y2) ∧ W.cell? ⟨b + 1, 3, none⟩ = some (.bool y3) ∧ W.cell? ⟨b + 1, 4, none⟩ = some (.string y4) ∧ W.cell? ⟨b + 1, 5, none⟩ = some (.int .i64 y5)) := fun W h => ⟨(B0.out.kept h).c6, (B1.out.kept h).c6⟩
 have hS0 := SK.out _ (Below.refl _ w1).drew
 refine qab (fun W => (W.cell? ⟨b, 0, none⟩ = some (.bool x0) ∧ W.cell? ⟨b, 1, none⟩ = some (.string x1) ∧ W.cell? ⟨b, 2, none⟩ = some (.int .i64 x2) ∧ W.cell? ⟨b, 3, none⟩ = some (.bool x3) ∧ W.cell? ⟨b, 4, none⟩ = some (.string x4) ∧ W.cell? ⟨b, 5, none⟩ = some (.int .i64 x5)) ∧ W.cell? ⟨b + 1, 0, none⟩ = some (.bool y0) ∧ W.cell? ⟨b + 1, 1, none⟩ = some (.string y1) ∧ W.cell? ⟨b + 1, 2, none⟩ = some (.int .i64 y2) ∧ W.cell? ⟨b + 1, 3, none⟩ = some (.bool y3) ∧ W.cell? ⟨b + 1, 4, none⟩ = some (.string y4) ∧ W.cell? ⟨b + 1, 5, none⟩ = some (.int .i64 y5)) [6,7] (by kernel_rfl) ?_ (fun hHeld => ?_)
 ·assumption
 refine wS 0 6 ?_
 refine wS 1 7 ?_
 refine oS 2 fun K hK => ?_
 go_simp
 (refine (NEG.out _).mono ?_; rintro e w4 ⟨rfl, hk4⟩; have K4 := qh (show Kept w1 w4 from (Below.refl _ w1).drew.trans (hk4.mono (Nat.le_refl _))); have hS4 := SK.out _ K4.out)
 refine hK.out _ _ ?_ (fun hHeld => ?_)
 ·assumption
 clear hK K
 try simp only [Act.put, tdy]
 refine oS 3 fun K hK => ?_
 go_simp
 (refine (ADD.out _).mono ?_; rintro e w5 ⟨rfl, hk5⟩; have K5 := qh (K4.out.trans' hk5); have hS5 := SK.out _ K5.out)
 refine hK.out _ _ ?_ (fun hHeld => ?_)
 ·assumption
 clear hK K
 try simp only [Act.put, tdy]
 refine wS 4 10 ?_
 refine wS 5 11 ?_
 obtain ⟨e0, e1, e2, e3, e4, e5⟩ := (B2.out.kept K5.out).c6
 obtain ⟨f0, f1, f2, f3, f4, f5⟩ := (B2.out.kept K5.out).f6
 refine eS 6 fun K hK => ?_
 go_simp
 refine hK.out _ _ ?_
 clear hK K
 try simp only [Act.put, tdy]
 refine eS 7 fun K hK => ?_
 go_simp
 refine hK.out _ _ ?_
 clear hK K
 try simp only [Act.put, tdy]
 refine dS ?_ _
 go_wp2_with fail
 exact bodyPost_ret (v := qaC V) (by simp [results, results79, go_sem, e0, e1, e2, e3, e4, e5, qaC]) rfl ⟨rfl, (K1.out.trans' K5.out).qdk (by have := HB.out; omega) _ _ _ _ _ _⟩
theorem qnV (p q r s : DyD) (w : World) (hp : qad p = true) (hq : qad q = true) (hr : qad r = true) (hs : qad s = true) :
  Calls prog 121 #[.agg #[.bool p.neg, .string p.n, .int .i64 p.e], .agg #[.bool q.neg, .string q.n, .int .i64 q.e], .agg #[.bool r.neg, .string r.n, .int .i64 r.e], .agg #[.bool s.neg, .string s.n, .int .i64 s.e], .bool false] w fun en w' => en = .returned (qaf (twoS (mulS p q) (mulS r s))) ∧ Kept w w' := by
 have M1 := qh (fun W => qfb p q W hp hq)
 have M2 := qh (fun W => qfb r s W hr hs)
 have h1 := qdm p q
 have h2 := qdm r s
 generalize mulS p q = R at *
 generalize mulS r s = Q at *
 have ADD := qh (fun W => qdX R.1 Q.1 W h1 h2)
 have HG := qh (show R.2 = 0 → Q.2 = 0 → qaS R.1 Q.1 = twoS R Q from fun a b => by unfold twoS; rw [if_pos ⟨a, b⟩])
 have HN := qh (show ¬ (R.2 = 0 ∧ Q.2 = 0) → twoS R Q = (zD, 4) from fun a => by unfold twoS; rw [if_neg a])
 generalize qaS R.1 Q.1 = V at *
 generalize twoS R Q = V2 at *
 obtain ⟨p0, p1, p2⟩ := p
 obtain ⟨q0, q1, q2⟩ := q
 obtain ⟨r0, r1, r2⟩ := r
 obtain ⟨s0, s1, s2⟩ := s
 obtain ⟨⟨m0, m1, m2⟩, m3⟩ := R
 obtain ⟨⟨n0, n1, n2⟩, n3⟩ := Q
 simp only at M1 M2 ADD HG HN ⊢
 clear hp hq hr hs h1 h2
 go_enter func121, ntmps121
 go_upto_region 1 with fail
 obtain ⟨b, w1, hw, hb, B0, B1, B2, B3, B4, K1, HB⟩ := qo9 w (LC0 p0 p1 p2) 24 (LC0 q0 q1 q2) 24 (LC0 r0 r1 r2) 24 (LC0 s0 s1 s2) 24 (LC0 false ⟨#[]⟩ 0) 24
 rw [← hw, ← hb]; clear hw hb
 obtain ⟨c0, c1, c2⟩ := B0.out.c3
 obtain ⟨d0, d1, d2⟩ := B1.out.c3
 go_upto_region 2 with (go_at_call 127; (with_reducible refine (M1.out _).mono ?_); rintro e w3 ⟨rfl, hk3⟩)
 have K4 := qh (Kept.new hk3 (.cells (LC0 m0 m1 m2).toArray 24))
 have B5 := qh (Bx.new w3 (LC0 m0 m1 m2) 24 w3.heap.size rfl)
 obtain ⟨g, hg⟩ : ∃ g, g = w3.heap.size := ⟨_, rfl⟩
 rw [← hg] at B5 ⊢
 clear hg hk3
 generalize (w3.alloc (.cells (LC0 m0 m1 m2).toArray 24)) = w4 at *
 clear c0 c1 c2 d0 d1 d2
 obtain ⟨c0, c1, c2⟩ := (B2.out.kept K4.out).c3
 obtain ⟨d0, d1, d2⟩ := (B3.out.kept K4.out).c3
 go_upto_region 3 with (go_at_call 127; (with_reducible refine (M2.out _).mono ?_); rintro e w5 ⟨rfl, hk5⟩)
 have K6 := qh (Kept.new (K4.out.trans' hk5) (.cells (LC0 n0 n1 n2).toArray 24))
 have B6 := qh (Bx.new w5 (LC0 n0 n1 n2) 24 w5.heap.size rfl)
 replace B5 := qh ((B5.out.kept hk5).kept (Kept.new (Below.refl _ _) (.cells (LC0 n0 n1 n2).toArray 24)))
 obtain ⟨g2, hg⟩ : ∃ g, g = w5.heap.size := ⟨_, rfl⟩
 rw [← hg] at B6 ⊢
 clear hg hk5
 generalize (w5.alloc (.cells (LC0 n0 n1 n2).toArray 24)) = w6 at *
 clear c0 c1 c2 d0 d1 d2 M1 M2
 obtain ⟨e0, e1, e2⟩ := (B4.out.kept K6.out).c3
 obtain ⟨f0, f1, f2⟩ := (B4.out.kept K6.out).f3
 by_cases h1 : m3 = 0
 ·by_cases h2 : n3 = 0
  ·have HV := qh (HG.out h1 h2)
   subst h1 h2
   obtain ⟨c0, c1, c2⟩ := B5.out.c3
   obtain ⟨d0, d1, d2⟩ := B6.out.c3
   clear e0 e1 e2 f0 f1 f2
   go_wp2_with (go_at_call 91; (with_reducible refine (ADD.out _).mono ?_); rintro e w7 ⟨rfl, hk7⟩; have K7 := qh (K6.out.trans' hk7); obtain ⟨e0, e1, e2⟩ := (B4.out.kept K7.out).c3; obtain ⟨f0, f1, f2⟩ := (B4.out.kept K7.out).f3)
   exact bodyPost_ret (v := qaf V) (by simp [results, results121, go_sem, e0, e1, e2, qaf]) rfl ⟨by rw [HV.out], (K1.out.trans' K7.out).qaL (by have := HB.out; omega) _ _ _⟩
  ·have HV := qh (HN.out (fun h => h2 h.2))
   subst h1
   go_wp2_with fail
   exact bodyPost_ret (v := qaf (zD, 4)) (by simp [results, results121, go_sem, e0, e1, e2, qaf, zD]) rfl ⟨by rw [HV.out], (K1.out.trans' K6.out).qaL (by have := HB.out; omega) _ _ _⟩
 ·have HV := qh (HN.out (fun h => h1 h.1))
  go_wp2_with fail
  exact bodyPost_ret (v := qaf (zD, 4)) (by simp [results, results121, go_sem, e0, e1, e2, qaf, zD]) rfl ⟨by rw [HV.out], (K1.out.trans' K6.out).qaL (by have := HB.out; omega) _ _ _⟩
theorem qhh (x : GsD) (w : World) (hx : gsB x = true) :
  Calls prog 80 #[.agg #[.bool x.re.neg, .string x.re.n, .int .i64 x.re.e, .bool x.im.neg, .string x.im.n, .int .i64 x.im.e]] w fun en w' => en = .returned (qaf (qbX x)) ∧ Kept w w' := by
 have TW := qh (fun W => qnV x.re x.re x.im x.im W (qam.1 hx).1 (qam.1 hx).1 (qam.1 hx).2 (qam.1 hx).2)
 unfold qbX
 generalize twoS (mulS x.re x.re) (mulS x.im x.im) = R at *
 obtain ⟨⟨x0, x1, x2⟩, ⟨x3, x4, x5⟩⟩ := x
 simp only at TW ⊢
 clear hx
 go_enter func80, ntmps80
 go_upto_region 1 with fail
 obtain ⟨b, w1, hw, hb, B0, B1, K1, HB⟩ := qa7 w (LC1 x0 x1 x2 x3 x4 x5) 28 (LC0 false ⟨#[]⟩ 0) 24
 rw [← hw, ← hb]; clear hw hb
 obtain ⟨c0, c1, c2, c3, c4, c5⟩ := B0.out.c6
 go_wp2_with (go_at_call 121; (with_reducible refine (TW.out _).mono ?_); rintro e w3 ⟨rfl, hk3⟩; obtain ⟨d0, d1, d2⟩ := (B1.out.kept hk3).c3; obtain ⟨f0, f1, f2⟩ := (B1.out.kept hk3).f3; have K3 := qh hk3)
 exact bodyPost_ret (v := qaf R) (by simp [results, results80, go_sem, d0, d1, d2, qaf]) rfl ⟨rfl, (K1.out.trans' K3.out).qaL (by have := HB.out; omega) _ _ _⟩
end
section
set_option maxHeartbeats 3200000
set_option maxRecDepth 100000
theorem qhM (x y : GsD) (r : DyD) (w : World) (hx : gsB x = true) (hy : gsB y = true) (hr : qad r = true) :
  Calls prog 176 #[.agg #[.bool x.re.neg, .string x.re.n, .int .i64 x.re.e, .bool x.im.neg, .string x.im.n, .int .i64 x.im.e], .agg #[.bool y.re.neg, .string y.re.n, .int .i64 y.re.e, .bool y.im.neg, .string y.im.n, .int .i64 y.im.e], .agg #[.bool r.neg, .string r.n, .int .i64 r.e]] w fun en w' => en = .returned (.tuple #[.int .i64 (qen x y r).1, .int .i64 (qen x y r).2]) ∧ Kept w w' := by
 have SUB := qh (fun W => qhs x y W hx hy)
 have MUL := qh (fun W => qfb r r W hr hr)
 have HS := qgW x y
 have HM := qgD r r
 have hS1 := qiw hx hy
 have hM1 := qdm r r
 unfold qen
 generalize qej x y = S at *
 generalize mulS r r = M at *
 have NRM := qh (fun W => qhh S.1 W hS1)
 have HN : (qbX S.1).2 = 0 ∨ qbX S.1 = (zD, 4) := qhg _ _
 have hN1 := qgY S.1
 generalize qbX S.1 = N at *
 have CMP := qh (fun W => qcZ N.1 M.1 W hN1 hM1)
 generalize qbx N.1 M.1 = C at *
 obtain ⟨⟨⟨a0, a1, a2⟩, ⟨a3, a4, a5⟩⟩, a6⟩ := S
 obtain ⟨⟨n0, n1, n2⟩, n3⟩ := N
 obtain ⟨⟨m0, m1, m2⟩, m3⟩ := M
 obtain ⟨⟨x0, x1, x2⟩, ⟨x3, x4, x5⟩⟩ := x
 obtain ⟨⟨y0, y1, y2⟩, ⟨y3, y4, y5⟩⟩ := y
 obtain ⟨r0, r1, r2⟩ := r
 simp only at SUB MUL NRM CMP HS HM HN ⊢
 have hs : a6 = 0 ∨ a6 = 4 := HS.imp id (fun h => (Prod.mk.inj h).2)
 have hn : n3 = 0 ∨ n3 = 4 := HN.imp id (fun h => (Prod.mk.inj h).2)
 have hm : m3 = 0 ∨ m3 = 4 := HM.imp id (fun h => (Prod.mk.inj h).2)
 clear hx hy hr HS HM HN hS1 hM1 hN1
 go_enter func176, ntmps176
 go_upto_region 1 with fail
 obtain ⟨b, w1, hw, hb, B0, B1, B2, K1, HB⟩ := qct w (LC1 x0 x1 x2 x3 x4 x5) 28 (LC1 y0 y1 y2 y3 y4 y5) 28 (LC0 r0 r1 r2) 24
 rw [← hw, ← hb]; clear hw hb
 obtain ⟨c0, c1, c2, c3, c4, c5⟩ := B0.out.c6
 obtain ⟨d0, d1, d2, d3, d4, d5⟩ := B1.out.c6
 go_upto_region 2 with (go_at_call 79; (with_reducible refine (SUB.out _).mono ?_); rintro e w3 ⟨rfl, hk3⟩)
 have K4 := qh (Kept.new hk3 (.cells (LC1 a0 a1 a2 a3 a4 a5).toArray 28))
 have B3 := qh (Bx.new w3 (LC1 a0 a1 a2 a3 a4 a5) 28 w3.heap.size rfl)
 obtain ⟨g, hg⟩ : ∃ g, g = w3.heap.size := ⟨_, rfl⟩
 rw [← hg] at B3 ⊢
 clear hg hk3
 generalize (w3.alloc (.cells (LC1 a0 a1 a2 a3 a4 a5).toArray 28)) = w4 at *
 clear SUB c0 c1 c2 c3 c4 c5 d0 d1 d2 d3 d4 d5
 rcases hs with rfl | rfl
 ·obtain ⟨c0, c1, c2, c3, c4, c5⟩ := B3.out.c6
  go_upto_region 5 with (go_at_call 80; (with_reducible refine (NRM.out _).mono ?_); rintro e w5 ⟨rfl, hk5⟩)
  have K6 := qh (Kept.new (K4.out.trans' hk5) (.cells (LC0 n0 n1 n2).toArray 24))
  have B4 := qh (Bx.new w5 (LC0 n0 n1 n2) 24 w5.heap.size rfl)
  obtain ⟨g2, hg⟩ : ∃ g, g = w5.heap.size := ⟨_, rfl⟩
  rw [← hg] at B4 ⊢
  clear hg hk5
  generalize (w5.alloc (.cells (LC0 n0 n1 n2).toArray 24)) = w6 at *
  clear NRM c0 c1 c2 c3 c4 c5
  obtain ⟨c0, c1, c2⟩ := (B2.out.kept K6.out).c3
  go_upto_region 6 with (go_at_call 127; (with_reducible refine (MUL.out _).mono ?_); rintro e w7 ⟨rfl, hk7⟩)
  have K8 := qh (Kept.new (K6.out.trans' hk7) (.cells (LC0 m0 m1 m2).toArray 24))
  have B5 := qh (Bx.new w7 (LC0 m0 m1 m2) 24 w7.heap.size rfl)
  replace B4 := qh ((B4.out.kept hk7).kept (Kept.new (Below.refl _ _) (.cells (LC0 m0 m1 m2).toArray 24)))
  obtain ⟨g3, hg⟩ : ∃ g, g = w7.heap.size := ⟨_, rfl⟩
  rw [← hg] at B5 ⊢
  clear hg hk7
  generalize (w7.alloc (.cells (LC0 m0 m1 m2).toArray 24)) = w8 at *
  clear MUL c0 c1 c2
  rcases hn with rfl | rfl
  ·rcases hm with rfl | rfl
   ·obtain ⟨c0, c1, c2⟩ := B4.out.c3
    obtain ⟨d0, d1, d2⟩ := B5.out.c3
    go_wp2_with (go_at_call 81; (with_reducible refine (CMP.out _).mono ?_); rintro e w9 ⟨rfl, hk9⟩)
    go_ret2
    exact ⟨rfl, (K1.out.trans' K8.out).trans' hk9⟩
   ·go_wp2_with fail
    go_ret2
    exact ⟨rfl, K1.out.trans' K8.out⟩
  ·go_wp2_with fail
   go_ret2
   exact ⟨rfl, K1.out.trans' K8.out⟩
 ·go_wp2_with fail
  go_ret2
  exact ⟨rfl, K1.out.trans' K4.out⟩
theorem qi4 (c : GsD) (r : DyD) (d : GsD) (s : DyD) (w : World) (hc : gsB c = true) (hr : qad r = true) (hd : gsB d = true) (hs : qad s = true) :
  Calls prog 140 #[.agg #[.bool c.re.neg, .string c.re.n, .int .i64 c.re.e, .bool c.im.neg, .string c.im.n, .int .i64 c.im.e], .agg #[.bool r.neg, .string r.n, .int .i64 r.e], .agg #[.bool d.re.neg, .string d.re.n, .int .i64 d.re.e, .bool d.im.neg, .string d.im.n, .int .i64 d.im.e], .agg #[.bool s.neg, .string s.n, .int .i64 s.e]] w fun en w' => en = .returned (.tuple #[.bool (qeK c r d s).1, .int .i64 (qeK c r d s).2]) ∧ Kept w w' := by
 have CMP := qh (fun W => qcZ r s W hr hs)
 have SUB := qh (fun W => qnT s r W hs hr)
 have hT1 := qis hs hr
 have HS := qgV s r
 have HV : qeK c r d s = if 0 < qbx r s then (false, 0) else if (qdG s r).2 = 0 then (decide ((qen c d (qdG s r).1).2 = 0) && decide ((qen c d (qdG s r).1).1 ≤ 0), (qen c d (qdG s r).1).2) else (false, 4) := rfl
 generalize qdG s r = T at *
 have FAR := qh (fun W => qhM c d T.1 W hc hd hT1)
 generalize qen c d T.1 = F at *
 generalize qeK c r d s = V at *
 generalize qbx r s = k at *
 obtain ⟨⟨x0, x1, x2⟩, ⟨x3, x4, x5⟩⟩ := c
 obtain ⟨⟨y0, y1, y2⟩, ⟨y3, y4, y5⟩⟩ := d
 obtain ⟨r0, r1, r2⟩ := r
 obtain ⟨s0, s1, s2⟩ := s
 obtain ⟨⟨t0, t1, t2⟩, t3⟩ := T
 obtain ⟨n, f⟩ := F
 simp only at CMP SUB FAR HV HS ⊢
 have ht : t3 = 0 ∨ t3 = 4 := HS.imp id (fun h => (Prod.mk.inj h).2)
 have HVV := qh HV
 clear hc hr hd hs hT1 HS HV
 go_enter func140, ntmps140
 go_upto_region 1 with fail
 obtain ⟨b, w1, hw, hb, B0, B1, B2, B3, K1, HB⟩ := qoN w (LC1 x0 x1 x2 x3 x4 x5) 28 (LC0 r0 r1 r2) 24 (LC1 y0 y1 y2 y3 y4 y5) 28 (LC0 s0 s1 s2) 24
 rw [← hw, ← hb]; clear hw hb
 obtain ⟨c0, c1, c2⟩ := B1.out.c3
 obtain ⟨d0, d1, d2⟩ := B3.out.c3
 by_cases hk : 0 < k
 ·have H1 := qh (show V = (false, 0) by rw [HVV.out, if_pos hk])
  go_wp2_with (go_at_call 81; (with_reducible refine (CMP.out _).mono ?_); rintro e w3 ⟨rfl, hk3⟩)
  exact bodyPost_ret (v := .tuple #[.bool false, .int .i64 0]) (by simp [results, results140, go_sem]) rfl ⟨by rw [H1.out], K1.out.trans' hk3⟩
 ·have H1 := qh (show ¬ 0 < k from hk)
  go_upto_region 3 with (go_at_call 81; (with_reducible refine (CMP.out _).mono ?_); rintro e w3 ⟨rfl, hk3⟩)
  have K3 := qh hk3
  clear hk3 c0 c1 c2 d0 d1 d2
  obtain ⟨c0, c1, c2⟩ := (B1.out.kept K3.out).c3
  obtain ⟨d0, d1, d2⟩ := (B3.out.kept K3.out).c3
  go_upto_region 4 with (go_at_call 175; (with_reducible refine (SUB.out _).mono ?_); rintro e w4 ⟨rfl, hk4⟩)
  have K5 := qh (Kept.new (K3.out.trans' hk4) (.cells (LC0 t0 t1 t2).toArray 24))
  have B4 := qh (Bx.new w4 (LC0 t0 t1 t2) 24 w4.heap.size rfl)
  obtain ⟨g, hg⟩ : ∃ g, g = w4.heap.size := ⟨_, rfl⟩
  rw [← hg] at B4 ⊢
  clear hg hk4
  generalize (w4.alloc (.cells (LC0 t0 t1 t2).toArray 24)) = w5 at *
  clear c0 c1 c2 d0 d1 d2 SUB CMP
  rcases ht with rfl | rfl
  ·obtain ⟨c0, c1, c2, c3, c4, c5⟩ := (B0.out.kept K5.out).c6
   obtain ⟨d0, d1, d2, d3, d4, d5⟩ := (B2.out.kept K5.out).c6
   obtain ⟨e0, e1, e2⟩ := B4.out.c3
   have H2 := qh (show V = (decide (f = 0) && decide (n ≤ 0), f) by rw [HVV.out, if_neg (by have := H1.out; omega)]; rfl)
   by_cases hf : f = 0
   ·subst hf
    go_wp2_with (go_at_call 176; (with_reducible refine (FAR.out _).mono ?_); rintro e w6 ⟨rfl, hk6⟩)
    exact bodyPost_ret (v := .tuple #[.bool (decide (n ≤ 0)), .int .i64 0]) (by simp [results, results140, go_sem]) rfl ⟨by rw [H2.out]; simp, (K1.out.trans' K5.out).trans' hk6⟩
   ·go_wp2_with (go_at_call 176; (with_reducible refine (FAR.out _).mono ?_); rintro e w6 ⟨rfl, hk6⟩)
    exact bodyPost_ret (v := .tuple #[.bool false, .int .i64 f]) (by simp [results, results140, go_sem]) rfl ⟨by rw [H2.out]; simp [hf], (K1.out.trans' K5.out).trans' hk6⟩
  ·have H2 := qh (show V = (false, 4) by rw [HVV.out, if_neg (by have := H1.out; omega)]; rfl)
   go_wp2_with fail
   exact bodyPost_ret (v := .tuple #[.bool false, .int .i64 4]) (by simp [results, results140, go_sem]) rfl ⟨by rw [H2.out], K1.out.trans' K5.out⟩
theorem qj1 (c : GsD) (r : DyD) (d : GsD) (s : DyD) (w : World) (hc : gsB c = true) (hr : qad r = true) (hd : gsB d = true) (hs : qad s = true) :
  Calls prog 141 #[.agg #[.bool c.re.neg, .string c.re.n, .int .i64 c.re.e, .bool c.im.neg, .string c.im.n, .int .i64 c.im.e], .agg #[.bool r.neg, .string r.n, .int .i64 r.e], .agg #[.bool d.re.neg, .string d.re.n, .int .i64 d.re.e, .bool d.im.neg, .string d.im.n, .int .i64 d.im.e], .agg #[.bool s.neg, .string s.n, .int .i64 s.e]] w fun en w' => en = .returned (.tuple #[.bool (qfS c r d s).1, .int .i64 (qfS c r d s).2]) ∧ Kept w w' := by
 have ADD := qh (fun W => qdX r s W hr hs)
 have hT1 := qgt hr hs
 have HS := qem r s
 have HV : qfS c r d s = if (qaS r s).2 = 0 then (decide ((qen c d (qaS r s).1).2 = 0) && decide (0 < (qen c d (qaS r s).1).1), (qen c d (qaS r s).1).2) else (false, 4) := rfl
 generalize qaS r s = T at *
 have FAR := qh (fun W => qhM c d T.1 W hc hd hT1)
 generalize qen c d T.1 = F at *
 generalize qfS c r d s = V at *
 obtain ⟨⟨x0, x1, x2⟩, ⟨x3, x4, x5⟩⟩ := c
 obtain ⟨⟨y0, y1, y2⟩, ⟨y3, y4, y5⟩⟩ := d
 obtain ⟨r0, r1, r2⟩ := r
 obtain ⟨s0, s1, s2⟩ := s
 obtain ⟨⟨t0, t1, t2⟩, t3⟩ := T
 obtain ⟨n, f⟩ := F
 simp only at ADD FAR HV HS ⊢
 have ht : t3 = 0 ∨ t3 = 4 := HS.imp id (fun h => (Prod.mk.inj h).2)
 have HVV := qh HV
 clear hc hr hd hs hT1 HS HV
 go_enter func141, ntmps141
 go_upto_region 1 with fail
 obtain ⟨b, w1, hw, hb, B0, B1, B2, B3, K1, HB⟩ := qoN w (LC1 x0 x1 x2 x3 x4 x5) 28 (LC0 r0 r1 r2) 24 (LC1 y0 y1 y2 y3 y4 y5) 28 (LC0 s0 s1 s2) 24
 rw [← hw, ← hb]; clear hw hb
 obtain ⟨c0, c1, c2⟩ := B1.out.c3
 obtain ⟨d0, d1, d2⟩ := B3.out.c3
 go_upto_region 2 with (go_at_call 91; (with_reducible refine (ADD.out _).mono ?_); rintro e w4 ⟨rfl, hk4⟩)
 have K5 := qh (Kept.new hk4 (.cells (LC0 t0 t1 t2).toArray 24))
 have B4 := qh (Bx.new w4 (LC0 t0 t1 t2) 24 w4.heap.size rfl)
 obtain ⟨g, hg⟩ : ∃ g, g = w4.heap.size := ⟨_, rfl⟩
 rw [← hg] at B4 ⊢
 clear hg hk4
 generalize (w4.alloc (.cells (LC0 t0 t1 t2).toArray 24)) = w5 at *
 clear c0 c1 c2 d0 d1 d2 ADD
 rcases ht with rfl | rfl
 ·obtain ⟨c0, c1, c2, c3, c4, c5⟩ := (B0.out.kept K5.out).c6
  obtain ⟨d0, d1, d2, d3, d4, d5⟩ := (B2.out.kept K5.out).c6
  obtain ⟨e0, e1, e2⟩ := B4.out.c3
  have H2 := qh (show V = (decide (f = 0) && decide (0 < n), f) by rw [HVV.out]; rfl)
  by_cases hf : f = 0
  ·subst hf
   go_wp2_with (go_at_call 176; (with_reducible refine (FAR.out _).mono ?_); rintro e w6 ⟨rfl, hk6⟩)
   exact bodyPost_ret (v := .tuple #[.bool (decide (0 < n)), .int .i64 0]) (by simp [results, results141, go_sem]) rfl ⟨by rw [H2.out]; simp, (K1.out.trans' K5.out).trans' hk6⟩
  ·go_wp2_with (go_at_call 176; (with_reducible refine (FAR.out _).mono ?_); rintro e w6 ⟨rfl, hk6⟩)
   exact bodyPost_ret (v := .tuple #[.bool false, .int .i64 f]) (by simp [results, results141, go_sem]) rfl ⟨by rw [H2.out]; simp [hf], (K1.out.trans' K5.out).trans' hk6⟩
 ·have H2 := qh (show V = (false, 4) by rw [HVV.out]; rfl)
  go_wp2_with fail
  exact bodyPost_ret (v := .tuple #[.bool false, .int .i64 4]) (by simp [results, results141, go_sem]) rfl ⟨by rw [H2.out], K1.out.trans' K5.out⟩
end
section
set_option maxHeartbeats 1600000
set_option maxRecDepth 100000
structure SqD.ok (s : SqD) : Prop where
 left : s.left.ok
 low : s.low.ok
 e0 : -9223372036854775808 ≤ s.e
 e1 : s.e ≤ 9223372036854775807
theorem qde {s : SqD} (h : sqB s = true) : s.ok := by
 obtain ⟨h1, h2, h3, h4⟩ := qas.1 h
 exact ⟨qda h1, qda h2, by omega, by omega⟩
theorem qnh (e : Int) (w : World) : Calls prog 95 #[.int .i64 e] w fun en w' => en = .returned (.bool (decide (-4096 ≤ e) && decide (e ≤ 4096))) ∧ w' = w := by
 by_cases h1 : -4096 ≤ e
 ·by_cases h2 : e ≤ 4096
  ·go_enter func95, ntmps95
   go_wp2
   go_ret
   exact ⟨by simp [h1, h2], rfl⟩
  ·go_enter func95, ntmps95
   go_wp2
   go_ret
   exact ⟨by simp [h1, h2], rfl⟩
 ·go_enter func95, ntmps95
  go_wp2
  go_ret
  exact ⟨by simp; omega, rfl⟩
theorem qbr (s : SqD) (w : World) (hs : s.ok) : Calls prog 54 #[.agg #[.bool s.left.neg, .string s.left.n, .int .i64 s.left.e, .bool s.low.neg, .string s.low.n, .int .i64 s.low.e, .int .i64 s.e]] w fun en w' => en = .returned (.int .i64 (if sqB s = true then 0 else 240)) ∧ Kept w w' := by
 have C1 := qh (fun W => qbq s.left W hs.left)
 have C2 := qh (fun W => qbq s.low W hs.low)
 have C3 := qh (qnh s.e)
 have HR := qh (show sqB s = (qad s.left && (qad s.low && (decide (-4096 ≤ s.e) && decide (s.e ≤ 4096)))) from rfl)
 unfold qcK at C1 C2
 obtain ⟨V, hV⟩ : ∃ V : Int, V = if sqB s = true then 0 else 240 := ⟨_, rfl⟩
 rw [← hV]
 have HV := qh hV
 clear hV
 rw [HR.out] at HV
 clear HR
 generalize qad s.left = b1 at *
 generalize qad s.low = b2 at *
 generalize (decide (-4096 ≤ s.e) && decide (s.e ≤ 4096)) = b3 at *
 obtain ⟨⟨a0, a1, a2⟩, ⟨a3, a4, a5⟩, a6⟩ := s
 simp only at C1 C2 C3 ⊢
 clear hs
 cases b1 with
 | false =>
  go_enter func54, ntmps54
  go_upto_region 1 with fail
  obtain ⟨b, w1, hw, hb, B0, K1, HB⟩ := qa4 w (LC3 a0 a1 a2 a3 a4 a5 a6) 26
  rw [← hw, ← hb]; clear hw hb
  obtain ⟨c0, c1, c2, c3, c4, c5, c6⟩ := B0.out.c7
  go_wp2_with (go_at_call 19; (with_reducible refine (C1.out _).mono ?_); rintro e w3 ⟨rfl, hk3⟩)
  go_ret
  exact ⟨by rw [HV.out]; rfl, K1.out.trans' hk3⟩
 | true =>
  cases b2 with
  | false =>
   go_enter func54, ntmps54
   go_upto_region 1 with fail
   obtain ⟨b, w1, hw, hb, B0, K1, HB⟩ := qa4 w (LC3 a0 a1 a2 a3 a4 a5 a6) 26
   rw [← hw, ← hb]; clear hw hb
   obtain ⟨c0, c1, c2, c3, c4, c5, c6⟩ := B0.out.c7
   go_wp2_with (first
    | (go_at_call 19; (with_reducible refine (C1.out _).mono ?_); rintro e w3 ⟨rfl, hk3⟩; have K3 := qh hk3; obtain ⟨c0, c1, c2, c3, c4, c5, c6⟩ := (B0.out.kept K3.out).c7)
    | (go_at_call 19; (with_reducible refine (C2.out _).mono ?_); rintro e w4 ⟨rfl, hk4⟩))
   go_ret
   exact ⟨by rw [HV.out]; rfl, (K1.out.trans' K3.out).trans' hk4⟩
  | true =>
   cases b3 with
   | false =>
    go_enter func54, ntmps54
    go_upto_region 1 with fail
    obtain ⟨b, w1, hw, hb, B0, K1, HB⟩ := qa4 w (LC3 a0 a1 a2 a3 a4 a5 a6) 26
    rw [← hw, ← hb]; clear hw hb
    obtain ⟨c0, c1, c2, c3, c4, c5, c6⟩ := B0.out.c7
    go_wp2_with (first
     | (go_at_call 19; (with_reducible refine (C1.out _).mono ?_); rintro e w3 ⟨rfl, hk3⟩; have K3 := qh hk3; obtain ⟨c0, c1, c2, c3, c4, c5, c6⟩ := (B0.out.kept K3.out).c7)
     | (go_at_call 19; (with_reducible refine (C2.out _).mono ?_); rintro e w4 ⟨rfl, hk4⟩; have K4 := qh (K3.out.trans' hk4); obtain ⟨c0, c1, c2, c3, c4, c5, c6⟩ := (B0.out.kept K4.out).c7)
     | (go_at_call 95; (with_reducible refine (C3.out _).mono ?_); rintro e w5 ⟨rfl, hw5⟩; replace hw5 := hw5.symm; subst hw5))
    go_ret
    exact ⟨by rw [HV.out]; rfl, K1.out.trans' K4.out⟩
   | true =>
    go_enter func54, ntmps54
    go_upto_region 1 with fail
    obtain ⟨b, w1, hw, hb, B0, K1, HB⟩ := qa4 w (LC3 a0 a1 a2 a3 a4 a5 a6) 26
    rw [← hw, ← hb]; clear hw hb
    obtain ⟨c0, c1, c2, c3, c4, c5, c6⟩ := B0.out.c7
    go_wp2_with (first
     | (go_at_call 19; (with_reducible refine (C1.out _).mono ?_); rintro e w3 ⟨rfl, hk3⟩; have K3 := qh hk3; obtain ⟨c0, c1, c2, c3, c4, c5, c6⟩ := (B0.out.kept K3.out).c7)
     | (go_at_call 19; (with_reducible refine (C2.out _).mono ?_); rintro e w4 ⟨rfl, hk4⟩; have K4 := qh (K3.out.trans' hk4); obtain ⟨c0, c1, c2, c3, c4, c5, c6⟩ := (B0.out.kept K4.out).c7)
     | (go_at_call 95; (with_reducible refine (C3.out _).mono ?_); rintro e w5 ⟨rfl, hw5⟩; replace hw5 := hw5.symm; subst hw5))
    go_ret
    exact ⟨by rw [HV.out]; rfl, K1.out.trans' K4.out⟩
theorem qh3 (d : DyD) (n e : Int) (w : World) (hd : qad d = true) (hn : n.natAbs ≤ 1000000) (h1 : -1000000 ≤ e) (h2 : e ≤ 1000000) (hT : T32 w) :
  Calls prog 96 #[.agg #[.bool d.neg, .string d.n, .int .i64 d.e], .int .i64 n, .int .i64 e] w fun en w' => en = .returned (qaf (qaM d n e)) ∧ Kept w w' := by
 have OF : Hid (∀ W, Kept w W → Calls prog 132 #[.int .i64 n, .int .i64 e] W fun en w' => en = .returned (qaf (qbh n e)) ∧ Kept W w') := fun W h => qnD n e W (by omega) (by omega) (by omega) (by omega) (hT.kept h)
 have hz := qoo (n := n) (e := e) (by omega) h1 h2
 have ho : qad (qbh n e).1 = true := qeF _ _
 unfold qaM ofS
 generalize qbh n e = F at *
 have ADD : Hid (∀ W, Kept w W → Calls prog 90 #[.agg #[.bool d.neg, .string d.n, .int .i64 d.e], .agg #[.bool F.1.neg, .string F.1.n, .int .i64 F.1.e]] W fun en w' => en = .returned (qaf (qaS d F.1)) ∧ Kept W w') := fun W h => qhd d F.1 W hd ho (hT.kept h)
 generalize qaS d F.1 = R at *
 obtain ⟨⟨f0, f1, f2⟩, f3⟩ := F
 obtain ⟨d0, d1, d2⟩ := d
 simp only at OF hz ADD ⊢
 subst hz
 clear hd hn h1 h2 hT ho
 go_enter func96, ntmps96
 go_upto_region 1 with fail
 obtain ⟨b, w1, hw, hb, B0, B1, K1, HB⟩ := qa7 w (LC0 d0 d1 d2) 24 (LC0 false ⟨#[]⟩ 0) 24
 rw [← hw, ← hb]; clear hw hb
 go_upto_region 2 with (go_at_call 132; (with_reducible refine (OF.out _ K1.out).mono ?_); rintro e w3 ⟨rfl, hk3⟩)
 have K4 := qh (Kept.new hk3 (.cells (LC0 f0 f1 f2).toArray 24))
 have B3 := qh (Bx.new w3 (LC0 f0 f1 f2) 24 w3.heap.size rfl)
 obtain ⟨g, hg⟩ : ∃ g, g = w3.heap.size := ⟨_, rfl⟩
 rw [← hg] at B3 ⊢
 clear hg hk3 OF
 generalize (w3.alloc (.cells (LC0 f0 f1 f2).toArray 24)) = w4 at *
 obtain ⟨c0, c1, c2⟩ := (B0.out.kept K4.out).c3
 obtain ⟨e0, e1, e2⟩ := B3.out.c3
 go_wp2_with (go_at_call 90; (with_reducible refine (ADD.out _ (K1.out.trans' K4.out)).mono ?_); rintro e w5 ⟨rfl, hk5⟩; have K5 := qh (K4.out.trans' hk5); obtain ⟨r0, r1, r2⟩ := (B1.out.kept K5.out).c3; obtain ⟨t0, t1, t2⟩ := (B1.out.kept K5.out).f3)
 exact bodyPost_ret (v := qaf R) (by simp [results, results96, go_sem, r0, r1, r2, qaf]) rfl ⟨rfl, (K1.out.trans' K5.out).qaL (by have := HB.out; omega) _ _ _⟩
end
section
set_option maxHeartbeats 3200000
set_option maxRecDepth 100000
theorem qiU (d : DyD) (n e : Int) : (qaM d n e).2 = 0 ∨ qaM d n e = (zD, 4) := qem _ _
theorem qbo (s : SqD) (r u : Int) (w : World) (hs : sqB s = true) (hr : r.natAbs ≤ 1000) (hu : u.natAbs ≤ 1000) (hT : T32 w) :
  Calls prog 55 #[.agg #[.bool s.left.neg, .string s.left.n, .int .i64 s.left.e, .bool s.low.neg, .string s.low.n, .int .i64 s.low.e, .int .i64 s.e], .int .i64 r, .int .i64 u] w
   fun en w' => en = .returned (qaC (qaF (qaM s.left r (s.e - 1)) (qaM s.low u (s.e - 1)))) ∧ Kept w w' := by
 obtain ⟨hs1, hs2, hs3, hs4⟩ := qas.1 hs
 have M1 : Hid (∀ W, Kept w W → Calls prog 96 #[.agg #[.bool s.left.neg, .string s.left.n, .int .i64 s.left.e], .int .i64 r, .int .i64 (s.e - 1)] W fun en w' => en = .returned (qaf (qaM s.left r (s.e - 1))) ∧ Kept W w') := fun W h => qh3 s.left r (s.e - 1) W hs1 (by omega) (by omega) (by omega) (hT.kept h)
 have M2 : Hid (∀ W, Kept w W → Calls prog 96 #[.agg #[.bool s.low.neg, .string s.low.n, .int .i64 s.low.e], .int .i64 u, .int .i64 (s.e - 1)] W fun en w' => en = .returned (qaf (qaM s.low u (s.e - 1))) ∧ Kept W w') := fun W h => qh3 s.low u (s.e - 1) W hs2 (by omega) (by omega) (by omega) (hT.kept h)
 have H1 := qiU s.left r (s.e - 1)
 have H2 := qiU s.low u (s.e - 1)
 generalize qaM s.left r (s.e - 1) = R at *
 generalize qaM s.low u (s.e - 1) = Q at *
 obtain ⟨V, hV⟩ : ∃ V, V = qaF R Q := ⟨_, rfl⟩
 rw [← hV]
 have HV := qh hV
 obtain ⟨⟨r0, r1, r2⟩, r3⟩ := R
 obtain ⟨⟨q0, q1, q2⟩, q3⟩ := Q
 obtain ⟨⟨a0, a1, a2⟩, ⟨a3, a4, a5⟩, a6⟩ := s
 simp only at M1 M2 H1 H2 hs3 hs4 ⊢
 have h1 : r3 = 0 ∨ r3 = 4 := H1.imp id (fun h => (Prod.mk.inj h).2)
 have h2 : q3 = 0 ∨ q3 = 4 := H2.imp id (fun h => (Prod.mk.inj h).2)
 clear hs hs1 hs2 hr hu hT H1 H2 hV
 go_enter func55, ntmps55
 go_upto_region 1 with fail
 obtain ⟨b, w1, hw, hb, B0, B1, K1, HB⟩ := qa7 w (LC3 a0 a1 a2 a3 a4 a5 a6) 26 ZL0 28
 rw [← hw, ← hb]; clear hw hb
 obtain ⟨c0, c1, c2, c3, c4, c5, c6⟩ := B0.out.c7
 go_upto_region 2 with (go_at_call 96; (with_reducible refine (M1.out _ K1.out).mono ?_); rintro e w3 ⟨rfl, hk3⟩)
 have K4 := qh (Kept.new hk3 (.cells (LC0 r0 r1 r2).toArray 24))
 have B3 := qh (Bx.new w3 (LC0 r0 r1 r2) 24 w3.heap.size rfl)
 obtain ⟨g, hg⟩ : ∃ g, g = w3.heap.size := ⟨_, rfl⟩
 rw [← hg] at B3 ⊢
 clear hg hk3 M1 c0 c1 c2 c3 c4 c5 c6
 generalize (w3.alloc (.cells (LC0 r0 r1 r2).toArray 24)) = w4 at *
 rcases h1 with rfl | rfl
 ·obtain ⟨c0, c1, c2, c3, c4, c5, c6⟩ := (B0.out.kept K4.out).c7
  go_upto_region 5 with (go_at_call 96; (with_reducible refine (M2.out _ (K1.out.trans' K4.out)).mono ?_); rintro e w5 ⟨rfl, hk5⟩)
  have K6 := qh (Kept.new (K4.out.trans' hk5) (.cells (LC0 q0 q1 q2).toArray 24))
  have B4 := qh (Bx.new w5 (LC0 q0 q1 q2) 24 w5.heap.size rfl)
  have B5 := qh ((B3.out.kept hk5).kept (Kept.new (Below.refl _ _) (.cells (LC0 q0 q1 q2).toArray 24)))
  obtain ⟨g2, hg2⟩ : ∃ g, g = w5.heap.size := ⟨_, rfl⟩
  rw [← hg2] at B4 ⊢
  clear hg2 hk5 K4 B3 M2 c0 c1 c2 c3 c4 c5 c6
  generalize (w5.alloc (.cells (LC0 q0 q1 q2).toArray 24)) = w6 at *
  obtain ⟨e0, e1, e2, e3, e4, e5⟩ := (B1.out.kept K6.out).c6
  obtain ⟨f0, f1, f2, f3, f4, f5⟩ := (B1.out.kept K6.out).f6
  rcases h2 with rfl | rfl
  ·obtain ⟨c0, c1, c2⟩ := B5.out.c3
   obtain ⟨d0, d1, d2⟩ := B4.out.c3
   go_wp2_with fail
   exact bodyPost_ret (v := qaC (⟨⟨r0, r1, r2⟩, ⟨q0, q1, q2⟩⟩, 0)) (by simp [results, results55, go_sem, e0, e1, e2, e3, e4, e5, qaC]) rfl ⟨by rw [HV.out]; rfl, (K1.out.trans' K6.out).qdk (by have := HB.out; omega) _ _ _ _ _ _⟩
  ·go_wp2_with fail
   exact bodyPost_ret (v := qaC (zG, 4)) (by simp [results, results55, go_sem, e0, e1, e2, e3, e4, e5, qaC, zG, zD]) rfl ⟨by rw [HV.out]; rfl, (K1.out.trans' K6.out).qdk (by have := HB.out; omega) _ _ _ _ _ _⟩
 ·obtain ⟨e0, e1, e2, e3, e4, e5⟩ := (B1.out.kept K4.out).c6
  obtain ⟨f0, f1, f2, f3, f4, f5⟩ := (B1.out.kept K4.out).f6
  go_wp2_with fail
  exact bodyPost_ret (v := qaC (zG, 4)) (by simp [results, results55, go_sem, e0, e1, e2, e3, e4, e5, qaC, zG, zD]) rfl ⟨by rw [HV.out]; rfl, (K1.out.trans' K4.out).qdk (by have := HB.out; omega) _ _ _ _ _ _⟩
theorem qkC (s : SqD) (w : World) (hs : sqB s = true) (hT : T32 w) :
  Calls prog 64 #[.agg #[.bool s.left.neg, .string s.left.n, .int .i64 s.left.e, .bool s.low.neg, .string s.low.n, .int .i64 s.low.e, .int .i64 s.e]] w fun en w' => en = .returned (qaC (qbu s)) ∧ Kept w w' := by
 have RT : Hid (∀ W, Calls prog 54 #[.agg #[.bool s.left.neg, .string s.left.n, .int .i64 s.left.e, .bool s.low.neg, .string s.low.n, .int .i64 s.low.e, .int .i64 s.e]] W fun en w' => en = .returned (.int .i64 0) ∧ Kept W w') := fun W => by
  have := qbr s W (qde hs)
  rwa [hs] at this
 have AT : Hid (∀ W, Kept w W → Calls prog 55 #[.agg #[.bool s.left.neg, .string s.left.n, .int .i64 s.left.e, .bool s.low.neg, .string s.low.n, .int .i64 s.low.e, .int .i64 s.e], .int .i64 1, .int .i64 1] W fun en w' => en = .returned (qaC (qbu s)) ∧ Kept W w') := fun W h => qbo s 1 1 W hs (by decide) (by decide) (hT.kept h)
 generalize qbu s = R at *
 obtain ⟨⟨a0, a1, a2⟩, ⟨a3, a4, a5⟩, a6⟩ := s
 simp only at RT AT ⊢
 clear hs hT
 go_enter func64, ntmps64
 go_upto_region 1 with fail
 obtain ⟨b, w1, hw, hb, B0, B1, K1, HB⟩ := qa7 w (LC3 a0 a1 a2 a3 a4 a5 a6) 26 ZL0 28
 rw [← hw, ← hb]; clear hw hb
 obtain ⟨c0, c1, c2, c3, c4, c5, c6⟩ := B0.out.c7
 go_wp2_with (first
  | (go_at_call 54; (with_reducible refine (RT.out _).mono ?_); rintro e w3 ⟨rfl, hk3⟩; have K3 := qh hk3; obtain ⟨c0, c1, c2, c3, c4, c5, c6⟩ := (B0.out.kept K3.out).c7)
  | (go_at_call 55; (with_reducible refine (AT.out _ (K1.out.trans' K3.out)).mono ?_); rintro e w4 ⟨rfl, hk4⟩; have K4 := qh (K3.out.trans' hk4); obtain ⟨e0, e1, e2, e3, e4, e5⟩ := (B1.out.kept K4.out).c6; obtain ⟨f0, f1, f2, f3, f4, f5⟩ := (B1.out.kept K4.out).f6))
 exact bodyPost_ret (v := qaC R) (by simp [results, results64, go_sem, e0, e1, e2, e3, e4, e5, qaC]) rfl ⟨rfl, (K1.out.trans' K4.out).qdk (by have := HB.out; omega) _ _ _ _ _ _⟩
end
theorem qer {P : Program} {W : World} {b n : Nat} {T : TypeId} {d : TypeDesc} {vs : List Value} (hb : Bx W b vs) (hn : vs.length = n) (hu : P.underlying T = some d) (hd : (match d with | .struct _ | .array _ _ => true | _ => false) = true) (hi : (P.info? T).map (·.size) = some n) :
  (loadVar T ⟨b, 0, none⟩).run P W = .ok (.agg vs.toArray) W := by
 obtain ⟨t, h⟩ := hb
 exact run_loadVar_row W b t T vs.toArray (0, 0) d h hu hd (by rw [hi]; simp [hn])
theorem Bx.row {W : World} {b : Nat} {old : List Value} (h : Bx W b old) (vs : List Value) : Bx (W.setRow b vs.toArray) b vs := by
 obtain ⟨t, h⟩ := h
 exact ⟨t, setRow_heap W b _ _ t _ h⟩
theorem Bx.off {W : World} {b g : Nat} {old : List Value} (h : Bx W b old) (hg : b ≠ g) (vs : List Value) : Bx (W.setRow g vs.toArray) b old := by
 obtain ⟨t, h⟩ := h
 exact ⟨t, by rw [setRow_other _ _ _ _ hg]; exact h⟩
theorem Kept.row {w W : World} {b : Nat} (h : Kept w W) (hb : w.heap.size ≤ b) (vs : List Value) : Kept w (W.setRow b vs.toArray) := by
 exact ⟨h.os, h.tape, h.output, by rw [setRow_size]; exact h.size, fun k hk => (setRow_other _ _ _ _ (by omega)).trans (h.block k hk)⟩
theorem qaK {P : Program} {o : Oper} {a : Act} {W : World} {K : Act → World → Prop} {Q : Exit → Act → World → Prop} (vs : List Value) (t : TypeId) (parts : Array (Nat × Operand)) (ho : o.op = .build t parts)
  (hv : P.built t (parts.map fun (i, x) => (i, a.eval x)).toList = some vs.toArray) (h : K (a.put o.dst (.agg vs.toArray)) W) : o.wp P a W K Q :=
 wp_build t parts ho (by rw [hv]; rfl) (by rw [hv]; exact h)
theorem qai {P : Program} {o : Oper} {a : Act} {W : World} {K : Act → World → Prop} {Q : Exit → Act → World → Prop} {b n : Nat} {T : TypeId} {d : TypeDesc} {vs : List Value} (x : Operand) (ho : o.op = .load T x) (hx : a.eval x = .pointer (some ⟨b, 0, none⟩)) (hb : Bx W b vs) (hn : vs.length = n) (hu : P.underlying T = some d) (hd : (match d with | .struct _ | .array _ _ => true | _ => false) = true) (hi : (P.info? T).map (·.size) = some n)
  (h : K (a.put o.dst (.agg vs.toArray)) W) : o.wp P a W K Q := by
 obtain ⟨t, hb⟩ := hb
 exact wp_load_row T x ho b hx t vs.toArray (0, 0) d hb hu hd (by rw [hi]; simp [hn]) h
theorem qaa {P : Program} {o : Oper} {a : Act} {W : World} {K : Act → World → Prop} {Q : Exit → Act → World → Prop} {b n : Nat} {T : TypeId} {old vs : List Value} (x y : Operand) (ho : o.op = .store T x y) (hx : a.eval x = .pointer (some ⟨b, 0, none⟩)) (hy : a.eval y = .agg vs.toArray) (hb : Bx W b old) (hn : vs.length = n) (hm : old.length = n) (hi : (P.info? T).map (·.size) = some n) (h1 : vs.all (·.oneCell') = true)
  (h : K (a.put o.dst undef) (W.setRow b vs.toArray)) : o.wp P a W K Q := by
 obtain ⟨t, hb⟩ := hb
 exact wp_store_row T x y ho b vs.toArray hx hy t old.toArray hb (by rw [hi]; simp [hn]) (by simp [hn, hm]) (by simpa using h1) h
theorem qjH {P : Program} {fn : Func} {W : World} {tm : Array Value} {t u b : Nat} {T : TypeId} {v x : Value} (hr : fn.results = #[.cell t T, .tmp u]) (h2 : tm.getD t undef = .pointer (some ⟨b, 0, none⟩)) (h3 : tm.getD u undef = x) (hl : (loadVar T ⟨b, 0, none⟩).run P W = .ok v W) :
  (results fn tm).run P W = .ok (.tuple #[v, x]) W := by
 rw [Array.getD_eq_getD_getElem?] at h2 h3
 unfold results
 rw [hr]
 simp only [Sem.run_bind]
 simp [Array.mapM_eq_mapM_toList, h2, h3, hl, asAddr]
theorem qbZ {P : Program} {fn : Func} {W : World} {tm : Array Value} {t u b n : Nat} {T : TypeId} {vs : List Value} {x : Value} {Q : Ending → World → Prop} {d : TypeDesc} (hr : fn.results = #[.cell t T, .tmp u]) (hu : P.underlying T = some d) (hd : (match d with | .struct _ | .array _ _ => true | _ => false) = true) (hi : (P.info? T).map (·.size) = some n)
  (h2 : tm.getD t undef = .pointer (some ⟨b, 0, none⟩)) (h3 : tm.getD u undef = x) (hb : Bx W b vs) (hn : vs.length = n) (hq : Q (.returned (.tuple #[.agg vs.toArray, x])) W) : bodyPost P fn Q Exit.ret { tmps := tm, defers := [] } W :=
 bodyPost_ret (v := .tuple #[.agg vs.toArray, x]) (qjH hr h2 h3 (qer hb hn hu hd hi)) rfl hq
section
set_option maxHeartbeats 6400000
set_option maxRecDepth 100000
theorem qbz {x y : DyD × Int} (hx : x.2 = 0) (hy : y.2 = 0) : qaF x y = (⟨x.1, y.1⟩, 0) := by unfold qaF; rw [if_pos ⟨hx, hy⟩]
theorem qdp {x y : DyD × Int} (h : ¬ x.2 = 0 ∨ ¬ y.2 = 0) : qaF x y = (zG, 4) := by
 unfold qaF; rw [if_neg]; rintro ⟨h1, h2⟩; rcases h with h | h
 ·exact h h1
 ·exact h h2
theorem qfd (d : DyD) (e : Int) : qaM d 2 (e - 1) = qaM d 1 e := by unfold qaM; rw [qou]
section
variable {s : SqD} (hs : sqB s = true)
include hs
theorem qhL : qaF (qaM s.left 0 (s.e - 1)) (qaM s.low 0 (s.e - 1)) = (⟨s.left, s.low⟩, 0) := by
 rw [qds _ (qas.1 hs).1, qds _ (qas.1 hs).2.1]; exact qbz rfl rfl
theorem qmX : qaF (qaM s.left 2 (s.e - 1)) (qaM s.low 0 (s.e - 1)) = qaF (qaN s) (s.low, 0) := by
 rw [qds _ (qas.1 hs).2.1, qfd]; rfl
theorem qoF : qaF (qaM s.left 0 (s.e - 1)) (qaM s.low 2 (s.e - 1)) = qaF (s.left, 0) (qaZ s) := by
 rw [qds _ (qas.1 hs).1, qfd]; rfl
theorem qoV : qaF (qaM s.left 2 (s.e - 1)) (qaM s.low 2 (s.e - 1)) = qaF (qaN s) (qaZ s) := by
 rw [qfd, qfd]; rfl
end
theorem qlo (s : SqD) (w : World) (hs : sqB s = true) (hT : T32 w) (hx : ¬ (qaN s).2 = 0) :
  Calls prog 22 #[.agg #[.bool s.left.neg, .string s.left.n, .int .i64 s.left.e, .bool s.low.neg, .string s.low.n, .int .i64 s.low.e, .int .i64 s.e]] w fun en w' => en = .returned (.tuple #[.agg ZL1.toArray, .int .i64 4]) ∧ Kept w w' := by
 have RT : Hid (∀ W, Calls prog 54 #[.agg #[.bool s.left.neg, .string s.left.n, .int .i64 s.left.e, .bool s.low.neg, .string s.low.n, .int .i64 s.low.e, .int .i64 s.e]] W fun en w' => en = .returned (.int .i64 0) ∧ Kept W w') := fun W => by
  have := qbr s W (qde hs)
  rwa [hs] at this
 obtain ⟨hs1, hs2, hs3, hs4⟩ := qas.1 hs
 have A0 : Hid (∀ W, Kept w W → Calls prog 55 #[.agg #[.bool s.left.neg, .string s.left.n, .int .i64 s.left.e, .bool s.low.neg, .string s.low.n, .int .i64 s.low.e, .int .i64 s.e], .int .i64 0, .int .i64 0] W fun en w' => en = .returned (qaC (⟨s.left, s.low⟩, 0)) ∧ Kept W w') := fun W h => by
  have := qbo s 0 0 W hs (by decide) (by decide) (hT.kept h)
  rwa [qhL hs] at this
 have A1 : Hid (∀ W, Kept w W → Calls prog 55 #[.agg #[.bool s.left.neg, .string s.left.n, .int .i64 s.left.e, .bool s.low.neg, .string s.low.n, .int .i64 s.low.e, .int .i64 s.e], .int .i64 2, .int .i64 0] W fun en w' => en = .returned (qaC (qaF (qaN s) (s.low, 0))) ∧ Kept W w') := fun W h => by
  have := qbo s 2 0 W hs (by decide) (by decide) (hT.kept h)
  rwa [qmX hs] at this
 rw [qdp (.inl hx)] at A1
 obtain ⟨⟨a0, a1, a2⟩, ⟨a3, a4, a5⟩, a6⟩ := s
 simp only at RT A0 A1 ⊢
 clear hs hs1 hs2 hs3 hs4 hT hx
 go_enter func22, ntmps22
 go_upto_region 1 with fail
 obtain ⟨b, w1, hw, hb, B0, B1, K1, HB⟩ := qa7 w (LC3 a0 a1 a2 a3 a4 a5 a6) 26 ZL1 64
 rw [← hw, ← hb]; clear hw hb
 obtain ⟨c0, c1, c2, c3, c4, c5, c6⟩ := B0.out.c7
 go_upto_region 4 with (go_at_call 54; (with_reducible refine (RT.out _).mono ?_); rintro e w3 ⟨rfl, hk3⟩)
 clear c0 c1 c2 c3 c4 c5 c6 RT
 have K4 := qh (Kept.new hk3 (.cells ZL1.toArray 64))
 have L4 := qh (Bx.new w3 ZL1 64 w3.heap.size rfl)
 obtain ⟨g, hg⟩ : ∃ g, g = w3.heap.size := ⟨_, rfl⟩
 rw [← hg] at L4 ⊢
 have HG := qh (show w1.heap.size ≤ g by have := hk3.size; omega)
 clear hg hk3
 generalize (w3.alloc (.cells ZL1.toArray 64)) = w4 at *
 go_wp2_with fail
 go_loopg [5, 6, 7, 12] 4 (fun gh v5 v6 v7 v12 wr => ∃ i : Nat, i + gh = 4 ∧ v12 = .int .i64 i ∧ Kept w1 wr ∧ ((i = 0 ∧ Bx wr g ZL1) ∨ (i = 1 ∧ Bx wr g (LC4 a0 a1 a2 a3 a4 a5 false ⟨#[]⟩ 0 false ⟨#[]⟩ 0 false ⟨#[]⟩ 0 false ⟨#[]⟩ 0 false ⟨#[]⟩ 0 false ⟨#[]⟩ 0))))
 case atStart => exact ⟨0, by omega, rfl, K4.out, .inl ⟨rfl, L4.out⟩⟩
 case round =>
  obtain ⟨i, hig, rfl, hk, hb⟩ := hrel
  have HK := qh hk
  have hgw : g < wr.heap.size := by rcases hb with ⟨-, hb⟩ | ⟨-, hb⟩ <;> exact hb.lt
  clear hk
  rcases hb with ⟨rfl, hb⟩ | ⟨rfl, hb⟩
  ·obtain rfl : gk = 4 := by omega
   have BL := qh hb
   clear hb
   obtain ⟨c0, c1, c2, c3, c4, c5, c6⟩ := (B0.out.kept HK.out).c7
   go_wp2_with (go_at_call 55; (with_reducible refine (A0.out _ (K1.out.trans' HK.out)).mono ?_); rintro e w5 ⟨rfl, hk5⟩; have B5 := qh (BL.out.kept hk5); have d0 := B5.out.c 0 rfl; have d1 := B5.out.c 1 rfl; have d2 := B5.out.c 2 rfl; have d3 := B5.out.c 3 rfl; have d4 := B5.out.c 4 rfl; have d5 := B5.out.c 5 rfl; have f0 := B5.out.f 0; have f1 := B5.out.f 1; have f2 := B5.out.f 2; have f3 := B5.out.f 3; have f4 := B5.out.f 4; have f5 := B5.out.f 5; have g5 := B5.out.lt; have K5 := qh (HK.out.trans' hk5); clear hk5 c0 c1 c2 c3 c4 c5 c6)
   go_roundg 3
   case measure => omega
   case rel =>
    refine ⟨1, by omega, by go_num, ?_, ?_⟩
    ·exact (Kept.new (Kept.set (Kept.set (Kept.set (Kept.set (Kept.set (Kept.set K5.out HG.out 0 _) HG.out 1 _) HG.out 2 _) HG.out 3 _) HG.out 4 _) HG.out 5 _) _)
    ·refine (.inr (⟨rfl, ?_⟩))
     exact (Bx.kept (Bx.set (Bx.set (Bx.set (Bx.set (Bx.set (Bx.set B5.out 0 _ (by simp)) 1 _ (by simp)) 2 _ (by simp)) 3 _ (by simp)) 4 _ (by simp)) 5 _ (by simp)) (Kept.new (Below.refl _ _) _))
  ·obtain rfl : gk = 3 := by omega
   have BL := qh hb
   clear hb
   obtain ⟨c0, c1, c2, c3, c4, c5, c6⟩ := (B0.out.kept HK.out).c7
   go_upto_region 9 with (go_at_call 55; (with_reducible refine (A1.out _ (K1.out.trans' HK.out)).mono ?_); rintro e w5 ⟨rfl, hk5⟩; have B5 := qh (BL.out.kept hk5); have K5 := qh (HK.out.trans' hk5); clear hk5 c0 c1 c2 c3 c4 c5 c6)
   replace K5 := qh (Kept.new K5.out (.cells (LC1 zG.re.neg zG.re.n zG.re.e zG.im.neg zG.im.n zG.im.e).toArray 28))
   generalize World.alloc w5 _ = w6 at *
   refine wp_region_list (wpList_plain rfl fun K hK => qaK ZL1 _ _ rfl (by kernel_rfl) (hK _ _ ?_))
   clear hK K
   refine wpList_plain rfl fun K hK => BigFrame.wp_move _ rfl (hK _ _ ?_)
   clear hK K
   refine wpList_plain rfl fun K hK => qaa (b := b + 1) (n := 24) _ _ rfl rfl rfl (B1.out.kept K5.out) rfl rfl (by kernel_rfl) rfl (hK _ _ ?_)
   clear hK K
   have B9 := qh ((B1.out.kept K5.out).row ZL1)
   have K9 := qh (Kept.row (K1.out.trans' K5.out) (show w.heap.size ≤ b + 1 by have := HB.out; omega) ZL1)
   generalize World.setRow _ _ _ = w9 at *
   go_wp2_with fail
   refine qbZ results22 underlying64 rfl (by kernel_rfl) rfl rfl B9.out rfl ⟨rfl, K9.out⟩
theorem qlU (s : SqD) (w : World) (hs : sqB s = true) (hT : T32 w) (hx : (qaN s).2 = 0) (hy : ¬ (qaZ s).2 = 0) :
  Calls prog 22 #[.agg #[.bool s.left.neg, .string s.left.n, .int .i64 s.left.e, .bool s.low.neg, .string s.low.n, .int .i64 s.low.e, .int .i64 s.e]] w fun en w' => en = .returned (.tuple #[.agg ZL1.toArray, .int .i64 4]) ∧ Kept w w' := by
 have RT : Hid (∀ W, Calls prog 54 #[.agg #[.bool s.left.neg, .string s.left.n, .int .i64 s.left.e, .bool s.low.neg, .string s.low.n, .int .i64 s.low.e, .int .i64 s.e]] W fun en w' => en = .returned (.int .i64 0) ∧ Kept W w') := fun W => by
  have := qbr s W (qde hs)
  rwa [hs] at this
 obtain ⟨hs1, hs2, hs3, hs4⟩ := qas.1 hs
 have A0 : Hid (∀ W, Kept w W → Calls prog 55 #[.agg #[.bool s.left.neg, .string s.left.n, .int .i64 s.left.e, .bool s.low.neg, .string s.low.n, .int .i64 s.low.e, .int .i64 s.e], .int .i64 0, .int .i64 0] W fun en w' => en = .returned (qaC (⟨s.left, s.low⟩, 0)) ∧ Kept W w') := fun W h => by
  have := qbo s 0 0 W hs (by decide) (by decide) (hT.kept h)
  rwa [qhL hs] at this
 have A1 : Hid (∀ W, Kept w W → Calls prog 55 #[.agg #[.bool s.left.neg, .string s.left.n, .int .i64 s.left.e, .bool s.low.neg, .string s.low.n, .int .i64 s.low.e, .int .i64 s.e], .int .i64 2, .int .i64 0] W fun en w' => en = .returned (qaC (qaF (qaN s) (s.low, 0))) ∧ Kept W w') := fun W h => by
  have := qbo s 2 0 W hs (by decide) (by decide) (hT.kept h)
  rwa [qmX hs] at this
 have A2 : Hid (∀ W, Kept w W → Calls prog 55 #[.agg #[.bool s.left.neg, .string s.left.n, .int .i64 s.left.e, .bool s.low.neg, .string s.low.n, .int .i64 s.low.e, .int .i64 s.e], .int .i64 0, .int .i64 2] W fun en w' => en = .returned (qaC (qaF (s.left, 0) (qaZ s))) ∧ Kept W w') := fun W h => by
  have := qbo s 0 2 W hs (by decide) (by decide) (hT.kept h)
  rwa [qoF hs] at this
 rw [qbz hx rfl] at A1
 rw [qdp (.inr hy)] at A2
 generalize (qaN s).1 = X at *
 obtain ⟨x0, x1, x2⟩ := X
 obtain ⟨⟨a0, a1, a2⟩, ⟨a3, a4, a5⟩, a6⟩ := s
 simp only at RT A0 A1 A2 ⊢
 clear hs hs1 hs2 hs3 hs4 hT hx hy
 go_enter func22, ntmps22
 go_upto_region 1 with fail
 obtain ⟨b, w1, hw, hb, B0, B1, K1, HB⟩ := qa7 w (LC3 a0 a1 a2 a3 a4 a5 a6) 26 ZL1 64
 rw [← hw, ← hb]; clear hw hb
 obtain ⟨c0, c1, c2, c3, c4, c5, c6⟩ := B0.out.c7
 go_upto_region 4 with (go_at_call 54; (with_reducible refine (RT.out _).mono ?_); rintro e w3 ⟨rfl, hk3⟩)
 clear c0 c1 c2 c3 c4 c5 c6 RT
 have K4 := qh (Kept.new hk3 (.cells ZL1.toArray 64))
 have L4 := qh (Bx.new w3 ZL1 64 w3.heap.size rfl)
 obtain ⟨g, hg⟩ : ∃ g, g = w3.heap.size := ⟨_, rfl⟩
 rw [← hg] at L4 ⊢
 have HG := qh (show w1.heap.size ≤ g by have := hk3.size; omega)
 clear hg hk3
 generalize (w3.alloc (.cells ZL1.toArray 64)) = w4 at *
 go_wp2_with fail
 go_loopg [5, 6, 7, 12] 4 (fun gh v5 v6 v7 v12 wr => ∃ i : Nat, i + gh = 4 ∧ v12 = .int .i64 i ∧ Kept w1 wr ∧ ((i = 0 ∧ Bx wr g ZL1) ∨ (i = 1 ∧ Bx wr g (LC4 a0 a1 a2 a3 a4 a5 false ⟨#[]⟩ 0 false ⟨#[]⟩ 0 false ⟨#[]⟩ 0 false ⟨#[]⟩ 0 false ⟨#[]⟩ 0 false ⟨#[]⟩ 0)) ∨ (i = 2 ∧ Bx wr g (LC4 a0 a1 a2 a3 a4 a5 x0 x1 x2 a3 a4 a5 false ⟨#[]⟩ 0 false ⟨#[]⟩ 0 false ⟨#[]⟩ 0 false ⟨#[]⟩ 0))))
 case atStart => exact ⟨0, by omega, rfl, K4.out, .inl ⟨rfl, L4.out⟩⟩
 case round =>
  obtain ⟨i, hig, rfl, hk, hb⟩ := hrel
  have HK := qh hk
  have hgw : g < wr.heap.size := by rcases hb with ⟨-, hb⟩ | ⟨-, hb⟩ | ⟨-, hb⟩ <;> exact hb.lt
  clear hk
  rcases hb with ⟨rfl, hb⟩ | ⟨rfl, hb⟩ | ⟨rfl, hb⟩
  ·obtain rfl : gk = 4 := by omega
   have BL := qh hb
   clear hb
   obtain ⟨c0, c1, c2, c3, c4, c5, c6⟩ := (B0.out.kept HK.out).c7
   go_wp2_with (go_at_call 55; (with_reducible refine (A0.out _ (K1.out.trans' HK.out)).mono ?_); rintro e w5 ⟨rfl, hk5⟩; have B5 := qh (BL.out.kept hk5); have d0 := B5.out.c 0 rfl; have d1 := B5.out.c 1 rfl; have d2 := B5.out.c 2 rfl; have d3 := B5.out.c 3 rfl; have d4 := B5.out.c 4 rfl; have d5 := B5.out.c 5 rfl; have f0 := B5.out.f 0; have f1 := B5.out.f 1; have f2 := B5.out.f 2; have f3 := B5.out.f 3; have f4 := B5.out.f 4; have f5 := B5.out.f 5; have g5 := B5.out.lt; have K5 := qh (HK.out.trans' hk5); clear hk5 c0 c1 c2 c3 c4 c5 c6)
   go_roundg 3
   case measure => omega
   case rel =>
    refine ⟨1, by omega, by go_num, ?_, ?_⟩
    ·exact (Kept.new (Kept.set (Kept.set (Kept.set (Kept.set (Kept.set (Kept.set K5.out HG.out 0 _) HG.out 1 _) HG.out 2 _) HG.out 3 _) HG.out 4 _) HG.out 5 _) _)
    ·refine (.inr (.inl ⟨rfl, ?_⟩))
     exact (Bx.kept (Bx.set (Bx.set (Bx.set (Bx.set (Bx.set (Bx.set B5.out 0 _ (by simp)) 1 _ (by simp)) 2 _ (by simp)) 3 _ (by simp)) 4 _ (by simp)) 5 _ (by simp)) (Kept.new (Below.refl _ _) _))
  ·obtain rfl : gk = 3 := by omega
   have BL := qh hb
   clear hb
   obtain ⟨c0, c1, c2, c3, c4, c5, c6⟩ := (B0.out.kept HK.out).c7
   go_wp2_with (go_at_call 55; (with_reducible refine (A1.out _ (K1.out.trans' HK.out)).mono ?_); rintro e w5 ⟨rfl, hk5⟩; have B5 := qh (BL.out.kept hk5); have d6 := B5.out.c 6 rfl; have d7 := B5.out.c 7 rfl; have d8 := B5.out.c 8 rfl; have d9 := B5.out.c 9 rfl; have d10 := B5.out.c 10 rfl; have d11 := B5.out.c 11 rfl; have f6 := B5.out.f 6; have f7 := B5.out.f 7; have f8 := B5.out.f 8; have f9 := B5.out.f 9; have f10 := B5.out.f 10; have f11 := B5.out.f 11; have g5 := B5.out.lt; have K5 := qh (HK.out.trans' hk5); clear hk5 c0 c1 c2 c3 c4 c5 c6)
   go_roundg 2
   case measure => omega
   case rel =>
    refine ⟨2, by omega, by go_num, ?_, ?_⟩
    ·exact (Kept.new (Kept.set (Kept.set (Kept.set (Kept.set (Kept.set (Kept.set K5.out HG.out 6 _) HG.out 7 _) HG.out 8 _) HG.out 9 _) HG.out 10 _) HG.out 11 _) _)
    ·refine (.inr (.inr (⟨rfl, ?_⟩)))
     exact (Bx.kept (Bx.set (Bx.set (Bx.set (Bx.set (Bx.set (Bx.set B5.out 6 _ (by simp)) 7 _ (by simp)) 8 _ (by simp)) 9 _ (by simp)) 10 _ (by simp)) 11 _ (by simp)) (Kept.new (Below.refl _ _) _))
  ·obtain rfl : gk = 2 := by omega
   have BL := qh hb
   clear hb
   obtain ⟨c0, c1, c2, c3, c4, c5, c6⟩ := (B0.out.kept HK.out).c7
   go_upto_region 9 with (go_at_call 55; (with_reducible refine (A2.out _ (K1.out.trans' HK.out)).mono ?_); rintro e w5 ⟨rfl, hk5⟩; have B5 := qh (BL.out.kept hk5); have K5 := qh (HK.out.trans' hk5); clear hk5 c0 c1 c2 c3 c4 c5 c6)
   replace K5 := qh (Kept.new K5.out (.cells (LC1 zG.re.neg zG.re.n zG.re.e zG.im.neg zG.im.n zG.im.e).toArray 28))
   generalize World.alloc w5 _ = w6 at *
   refine wp_region_list (wpList_plain rfl fun K hK => qaK ZL1 _ _ rfl (by kernel_rfl) (hK _ _ ?_))
   clear hK K
   refine wpList_plain rfl fun K hK => BigFrame.wp_move _ rfl (hK _ _ ?_)
   clear hK K
   refine wpList_plain rfl fun K hK => qaa (b := b + 1) (n := 24) _ _ rfl rfl rfl (B1.out.kept K5.out) rfl rfl (by kernel_rfl) rfl (hK _ _ ?_)
   clear hK K
   have B9 := qh ((B1.out.kept K5.out).row ZL1)
   have K9 := qh (Kept.row (K1.out.trans' K5.out) (show w.heap.size ≤ b + 1 by have := HB.out; omega) ZL1)
   generalize World.setRow _ _ _ = w9 at *
   go_wp2_with fail
   refine qbZ results22 underlying64 rfl (by kernel_rfl) rfl rfl B9.out rfl ⟨rfl, K9.out⟩
theorem qkl (s : SqD) (w : World) (hs : sqB s = true) (hT : T32 w) (hx : (qaN s).2 = 0) (hy : (qaZ s).2 = 0) :
  Calls prog 22 #[.agg #[.bool s.left.neg, .string s.left.n, .int .i64 s.left.e, .bool s.low.neg, .string s.low.n, .int .i64 s.low.e, .int .i64 s.e]] w fun en w' => en = .returned (.tuple #[.agg #[.bool s.left.neg, .string s.left.n, .int .i64 s.left.e, .bool s.low.neg, .string s.low.n, .int .i64 s.low.e, .bool (qaN s).1.neg, .string (qaN s).1.n, .int .i64 (qaN s).1.e, .bool s.low.neg, .string s.low.n, .int .i64 s.low.e, .bool s.left.neg, .string s.left.n, .int .i64 s.left.e, .bool (qaZ s).1.neg, .string (qaZ s).1.n, .int .i64 (qaZ s).1.e, .bool (qaN s).1.neg, .string (qaN s).1.n, .int .i64 (qaN s).1.e, .bool (qaZ s).1.neg, .string (qaZ s).1.n, .int .i64 (qaZ s).1.e], .int .i64 0]) ∧ Kept w w' := by
 have RT : Hid (∀ W, Calls prog 54 #[.agg #[.bool s.left.neg, .string s.left.n, .int .i64 s.left.e, .bool s.low.neg, .string s.low.n, .int .i64 s.low.e, .int .i64 s.e]] W fun en w' => en = .returned (.int .i64 0) ∧ Kept W w') := fun W => by
  have := qbr s W (qde hs)
  rwa [hs] at this
 obtain ⟨hs1, hs2, hs3, hs4⟩ := qas.1 hs
 have A0 : Hid (∀ W, Kept w W → Calls prog 55 #[.agg #[.bool s.left.neg, .string s.left.n, .int .i64 s.left.e, .bool s.low.neg, .string s.low.n, .int .i64 s.low.e, .int .i64 s.e], .int .i64 0, .int .i64 0] W fun en w' => en = .returned (qaC (⟨s.left, s.low⟩, 0)) ∧ Kept W w') := fun W h => by
  have := qbo s 0 0 W hs (by decide) (by decide) (hT.kept h)
  rwa [qhL hs] at this
 have A1 : Hid (∀ W, Kept w W → Calls prog 55 #[.agg #[.bool s.left.neg, .string s.left.n, .int .i64 s.left.e, .bool s.low.neg, .string s.low.n, .int .i64 s.low.e, .int .i64 s.e], .int .i64 2, .int .i64 0] W fun en w' => en = .returned (qaC (qaF (qaN s) (s.low, 0))) ∧ Kept W w') := fun W h => by
  have := qbo s 2 0 W hs (by decide) (by decide) (hT.kept h)
  rwa [qmX hs] at this
 have A2 : Hid (∀ W, Kept w W → Calls prog 55 #[.agg #[.bool s.left.neg, .string s.left.n, .int .i64 s.left.e, .bool s.low.neg, .string s.low.n, .int .i64 s.low.e, .int .i64 s.e], .int .i64 0, .int .i64 2] W fun en w' => en = .returned (qaC (qaF (s.left, 0) (qaZ s))) ∧ Kept W w') := fun W h => by
  have := qbo s 0 2 W hs (by decide) (by decide) (hT.kept h)
  rwa [qoF hs] at this
 have A3 : Hid (∀ W, Kept w W → Calls prog 55 #[.agg #[.bool s.left.neg, .string s.left.n, .int .i64 s.left.e, .bool s.low.neg, .string s.low.n, .int .i64 s.low.e, .int .i64 s.e], .int .i64 2, .int .i64 2] W fun en w' => en = .returned (qaC (qaF (qaN s) (qaZ s))) ∧ Kept W w') := fun W h => by
  have := qbo s 2 2 W hs (by decide) (by decide) (hT.kept h)
  rwa [qoV hs] at this
 rw [qbz hx rfl] at A1
 rw [qbz rfl hy] at A2
 rw [qbz hx hy] at A3
 generalize (qaN s).1 = X at *
 generalize (qaZ s).1 = Y at *
 obtain ⟨x0, x1, x2⟩ := X
 obtain ⟨y0, y1, y2⟩ := Y
 obtain ⟨⟨a0, a1, a2⟩, ⟨a3, a4, a5⟩, a6⟩ := s
 simp only at RT A0 A1 A2 A3 ⊢
 clear hs hs1 hs2 hs3 hs4 hT hx hy
 go_enter func22, ntmps22
 go_upto_region 1 with fail
 obtain ⟨b, w1, hw, hb, B0, B1, K1, HB⟩ := qa7 w (LC3 a0 a1 a2 a3 a4 a5 a6) 26 ZL1 64
 rw [← hw, ← hb]; clear hw hb
 obtain ⟨c0, c1, c2, c3, c4, c5, c6⟩ := B0.out.c7
 go_upto_region 4 with (go_at_call 54; (with_reducible refine (RT.out _).mono ?_); rintro e w3 ⟨rfl, hk3⟩)
 clear c0 c1 c2 c3 c4 c5 c6 RT
 have K4 := qh (Kept.new hk3 (.cells ZL1.toArray 64))
 have L4 := qh (Bx.new w3 ZL1 64 w3.heap.size rfl)
 obtain ⟨g, hg⟩ : ∃ g, g = w3.heap.size := ⟨_, rfl⟩
 rw [← hg] at L4 ⊢
 have HG := qh (show w1.heap.size ≤ g by have := hk3.size; omega)
 clear hg hk3
 generalize (w3.alloc (.cells ZL1.toArray 64)) = w4 at *
 go_wp2_with fail
 go_loopg [5, 6, 7, 12] 4 (fun gh v5 v6 v7 v12 wr => ∃ i : Nat, i + gh = 4 ∧ v12 = .int .i64 i ∧ Kept w1 wr ∧ ((i = 0 ∧ Bx wr g ZL1) ∨ (i = 1 ∧ Bx wr g (LC4 a0 a1 a2 a3 a4 a5 false ⟨#[]⟩ 0 false ⟨#[]⟩ 0 false ⟨#[]⟩ 0 false ⟨#[]⟩ 0 false ⟨#[]⟩ 0 false ⟨#[]⟩ 0)) ∨ (i = 2 ∧ Bx wr g (LC4 a0 a1 a2 a3 a4 a5 x0 x1 x2 a3 a4 a5 false ⟨#[]⟩ 0 false ⟨#[]⟩ 0 false ⟨#[]⟩ 0 false ⟨#[]⟩ 0)) ∨ (i = 3 ∧ Bx wr g (LC4 a0 a1 a2 a3 a4 a5 x0 x1 x2 a3 a4 a5 a0 a1 a2 y0 y1 y2 false ⟨#[]⟩ 0 false ⟨#[]⟩ 0)) ∨ (i = 4 ∧ Bx wr g (LC4 a0 a1 a2 a3 a4 a5 x0 x1 x2 a3 a4 a5 a0 a1 a2 y0 y1 y2 x0 x1 x2 y0 y1 y2))))
 case atStart => exact ⟨0, by omega, rfl, K4.out, .inl ⟨rfl, L4.out⟩⟩
 case round =>
  obtain ⟨i, hig, rfl, hk, hb⟩ := hrel
  have HK := qh hk
  have hgw : g < wr.heap.size := by rcases hb with ⟨-, hb⟩ | ⟨-, hb⟩ | ⟨-, hb⟩ | ⟨-, hb⟩ | ⟨-, hb⟩ <;> exact hb.lt
  clear hk
  rcases hb with ⟨rfl, hb⟩ | ⟨rfl, hb⟩ | ⟨rfl, hb⟩ | ⟨rfl, hb⟩ | ⟨rfl, hb⟩
  ·obtain rfl : gk = 4 := by omega
   have BL := qh hb
   clear hb
   obtain ⟨c0, c1, c2, c3, c4, c5, c6⟩ := (B0.out.kept HK.out).c7
   go_wp2_with (go_at_call 55; (with_reducible refine (A0.out _ (K1.out.trans' HK.out)).mono ?_); rintro e w5 ⟨rfl, hk5⟩; have B5 := qh (BL.out.kept hk5); have d0 := B5.out.c 0 rfl; have d1 := B5.out.c 1 rfl; have d2 := B5.out.c 2 rfl; have d3 := B5.out.c 3 rfl; have d4 := B5.out.c 4 rfl; have d5 := B5.out.c 5 rfl; have f0 := B5.out.f 0; have f1 := B5.out.f 1; have f2 := B5.out.f 2; have f3 := B5.out.f 3; have f4 := B5.out.f 4; have f5 := B5.out.f 5; have g5 := B5.out.lt; have K5 := qh (HK.out.trans' hk5); clear hk5 c0 c1 c2 c3 c4 c5 c6)
   go_roundg 3
   case measure => omega
   case rel =>
    refine ⟨1, by omega, by go_num, ?_, ?_⟩
    ·exact (Kept.new (Kept.set (Kept.set (Kept.set (Kept.set (Kept.set (Kept.set K5.out HG.out 0 _) HG.out 1 _) HG.out 2 _) HG.out 3 _) HG.out 4 _) HG.out 5 _) _)
    ·refine (.inr (.inl ⟨rfl, ?_⟩))
     exact (Bx.kept (Bx.set (Bx.set (Bx.set (Bx.set (Bx.set (Bx.set B5.out 0 _ (by simp)) 1 _ (by simp)) 2 _ (by simp)) 3 _ (by simp)) 4 _ (by simp)) 5 _ (by simp)) (Kept.new (Below.refl _ _) _))
  ·obtain rfl : gk = 3 := by omega
   have BL := qh hb
   clear hb
   obtain ⟨c0, c1, c2, c3, c4, c5, c6⟩ := (B0.out.kept HK.out).c7
   go_wp2_with (go_at_call 55; (with_reducible refine (A1.out _ (K1.out.trans' HK.out)).mono ?_); rintro e w5 ⟨rfl, hk5⟩; have B5 := qh (BL.out.kept hk5); have d6 := B5.out.c 6 rfl; have d7 := B5.out.c 7 rfl; have d8 := B5.out.c 8 rfl; have d9 := B5.out.c 9 rfl; have d10 := B5.out.c 10 rfl; have d11 := B5.out.c 11 rfl; have f6 := B5.out.f 6; have f7 := B5.out.f 7; have f8 := B5.out.f 8; have f9 := B5.out.f 9; have f10 := B5.out.f 10; have f11 := B5.out.f 11; have g5 := B5.out.lt; have K5 := qh (HK.out.trans' hk5); clear hk5 c0 c1 c2 c3 c4 c5 c6)
   go_roundg 2
   case measure => omega
   case rel =>
    refine ⟨2, by omega, by go_num, ?_, ?_⟩
    ·exact (Kept.new (Kept.set (Kept.set (Kept.set (Kept.set (Kept.set (Kept.set K5.out HG.out 6 _) HG.out 7 _) HG.out 8 _) HG.out 9 _) HG.out 10 _) HG.out 11 _) _)
    ·refine (.inr (.inr (.inl ⟨rfl, ?_⟩)))
     exact (Bx.kept (Bx.set (Bx.set (Bx.set (Bx.set (Bx.set (Bx.set B5.out 6 _ (by simp)) 7 _ (by simp)) 8 _ (by simp)) 9 _ (by simp)) 10 _ (by simp)) 11 _ (by simp)) (Kept.new (Below.refl _ _) _))
  ·obtain rfl : gk = 2 := by omega
   have BL := qh hb
   clear hb
   obtain ⟨c0, c1, c2, c3, c4, c5, c6⟩ := (B0.out.kept HK.out).c7
   go_wp2_with (go_at_call 55; (with_reducible refine (A2.out _ (K1.out.trans' HK.out)).mono ?_); rintro e w5 ⟨rfl, hk5⟩; have B5 := qh (BL.out.kept hk5); have d12 := B5.out.c 12 rfl; have d13 := B5.out.c 13 rfl; have d14 := B5.out.c 14 rfl; have d15 := B5.out.c 15 rfl; have d16 := B5.out.c 16 rfl; have d17 := B5.out.c 17 rfl; have f12 := B5.out.f 12; have f13 := B5.out.f 13; have f14 := B5.out.f 14; have f15 := B5.out.f 15; have f16 := B5.out.f 16; have f17 := B5.out.f 17; have g5 := B5.out.lt; have K5 := qh (HK.out.trans' hk5); clear hk5 c0 c1 c2 c3 c4 c5 c6)
   go_roundg 1
   case measure => omega
   case rel =>
    refine ⟨3, by omega, by go_num, ?_, ?_⟩
    ·exact (Kept.new (Kept.set (Kept.set (Kept.set (Kept.set (Kept.set (Kept.set K5.out HG.out 12 _) HG.out 13 _) HG.out 14 _) HG.out 15 _) HG.out 16 _) HG.out 17 _) _)
    ·refine (.inr (.inr (.inr (.inl ⟨rfl, ?_⟩))))
     exact (Bx.kept (Bx.set (Bx.set (Bx.set (Bx.set (Bx.set (Bx.set B5.out 12 _ (by simp)) 13 _ (by simp)) 14 _ (by simp)) 15 _ (by simp)) 16 _ (by simp)) 17 _ (by simp)) (Kept.new (Below.refl _ _) _))
  ·obtain rfl : gk = 1 := by omega
   have BL := qh hb
   clear hb
   obtain ⟨c0, c1, c2, c3, c4, c5, c6⟩ := (B0.out.kept HK.out).c7
   go_wp2_with (go_at_call 55; (with_reducible refine (A3.out _ (K1.out.trans' HK.out)).mono ?_); rintro e w5 ⟨rfl, hk5⟩; have B5 := qh (BL.out.kept hk5); have d18 := B5.out.c 18 rfl; have d19 := B5.out.c 19 rfl; have d20 := B5.out.c 20 rfl; have d21 := B5.out.c 21 rfl; have d22 := B5.out.c 22 rfl; have d23 := B5.out.c 23 rfl; have f18 := B5.out.f 18; have f19 := B5.out.f 19; have f20 := B5.out.f 20; have f21 := B5.out.f 21; have f22 := B5.out.f 22; have f23 := B5.out.f 23; have g5 := B5.out.lt; have K5 := qh (HK.out.trans' hk5); clear hk5 c0 c1 c2 c3 c4 c5 c6)
   go_roundg 0
   case measure => omega
   case rel =>
    refine ⟨4, by omega, by go_num, ?_, ?_⟩
    ·exact (Kept.new (Kept.set (Kept.set (Kept.set (Kept.set (Kept.set (Kept.set K5.out HG.out 18 _) HG.out 19 _) HG.out 20 _) HG.out 21 _) HG.out 22 _) HG.out 23 _) _)
    ·refine (.inr (.inr (.inr (.inr (⟨rfl, ?_⟩)))))
     exact (Bx.kept (Bx.set (Bx.set (Bx.set (Bx.set (Bx.set (Bx.set B5.out 18 _ (by simp)) 19 _ (by simp)) 20 _ (by simp)) 21 _ (by simp)) 22 _ (by simp)) 23 _ (by simp)) (Kept.new (Below.refl _ _) _))
  ·obtain rfl : gk = 0 := by omega
   have BL := qh hb
   clear hb
   go_upto_region 12 with fail
   refine wp_region_list (wpList_plain rfl fun K hK => qai (b := g) (n := 24) _ rfl rfl BL.out rfl underlying64 rfl (by kernel_rfl) (hK _ _ ?_))
   clear hK K
   refine wpList_plain rfl fun K hK => qaa (b := b + 1) (n := 24) _ _ rfl rfl rfl (B1.out.kept HK.out) rfl rfl (by kernel_rfl) rfl (hK _ _ ?_)
   clear hK K
   have B9 := qh ((B1.out.kept HK.out).row (LC4 a0 a1 a2 a3 a4 a5 x0 x1 x2 a3 a4 a5 a0 a1 a2 y0 y1 y2 x0 x1 x2 y0 y1 y2))
   have K9 := qh (Kept.row (K1.out.trans' HK.out) (show w.heap.size ≤ b + 1 by have := HB.out; omega) (LC4 a0 a1 a2 a3 a4 a5 x0 x1 x2 a3 a4 a5 a0 a1 a2 y0 y1 y2 x0 x1 x2 y0 y1 y2))
   generalize World.setRow _ _ _ = w9 at *
   go_wp2_with fail
   refine qbZ results22 underlying64 rfl (by kernel_rfl) rfl rfl B9.out rfl ⟨rfl, K9.out⟩
def qoJ (g : GsD) : List Value := (LC1 g.re.neg g.re.n g.re.e g.im.neg g.im.n g.im.e)
def qmG : Option (List GsD) → Value
 | none => .tuple #[.agg ZL1.toArray, .int .i64 4]
 | some l => .tuple #[.agg (l.flatMap qoJ).toArray, .int .i64 0]
theorem qdL (s : SqD) (w : World) (hs : sqB s = true) (hT : T32 w) :
  Calls prog 22 #[.agg #[.bool s.left.neg, .string s.left.n, .int .i64 s.left.e, .bool s.low.neg, .string s.low.n, .int .i64 s.low.e, .int .i64 s.e]] w fun en w' => en = .returned (qmG (qaA s)) ∧ Kept w w' := by
 by_cases hx : (qaN s).2 = 0
 ·by_cases hy : (qaZ s).2 = 0
  ·have h : qaA s = some [⟨s.left, s.low⟩, ⟨(qaN s).1, s.low⟩, ⟨s.left, (qaZ s).1⟩, ⟨(qaN s).1, (qaZ s).1⟩] := by unfold qaA; rw [if_pos ⟨hx, hy⟩]
   rw [h]
   exact qkl s w hs hT hx hy
  ·have h : qaA s = none := by unfold qaA; rw [if_neg (fun h => hy h.2)]
   rw [h]
   exact qlU s w hs hT hx hy
 ·have h : qaA s = none := by unfold qaA; rw [if_neg (fun h => hx h.1)]
  rw [h]
  exact qlo s w hs hT hx
end
end Go.Proofs.YtfdnledkcongaaaGreatDoor
