/- Texts of one claim laid together: TelB, TelC, TelD, VieE, VieG, TreM, TreA, TreB, SqYS, TreC. -/
import Derived.Test.YtfdnledkcongaaaGreatDoorQ9
import Derived.Laws.Cells
set_option linter.all false
namespace Go.Proofs.YtfdnledkcongaaaGreatDoor
open Go.RowKit Go.Proofs.Tryz
section
attribute [local go_sem] run_float_arith qaI qaJ qau qah qae
def qnm (i : Nat) : Int := if i = 1 ∨ i = 5 then 1 else if i = 2 then 2 else if i = 6 then 9 else 0
def qjF (k : Int) (c1 c2 r : Nat) : Int := IntKind.u64.wrap (IntKind.u64.wrap (IntKind.u64.wrap (IntKind.u64.wrap ((c1 : Int) * 3) + IntKind.u64.wrap ((c2 : Int) * 5)) + IntKind.u64.wrap ((r : Int) * 7)) + IntKind.u64.wrap k)
def qf0 (N : Int) : Int := IntKind.u64.wrap (bits BinOp.xor IntKind.u64 N (N / 2147483648) * 11400714819323198485)
def qoG (k : Int) (c1 c2 r : Nat) : Int := qnm (qf0 (qjF k c1 c2 r) / 2305843009213693952).toNat
theorem qmv (i : Nat) (hi : i < 8) (W : World) : (Instr.index 222 (.agg #[.int .u8 0, .int .u8 1, .int .u8 2, .int .u8 0, .int .u8 0, .int .u8 1, .int .u8 9, .int .u8 0]) (.int .u64 (i : Int))).run prog W = .ok (.int .u8 (qnm i)) W := by
 rcases (show i = 0 ∨ i = 1 ∨ i = 2 ∨ i = 3 ∨ i = 4 ∨ i = 5 ∨ i = 6 ∨ i = 7 by omega) with rfl | rfl | rfl | rfl | rfl | rfl | rfl | rfl <;> kernel_rfl
theorem qnb (N : Int) : 0 ≤ qf0 N ∧ qf0 N < 18446744073709551616 := by
 unfold qf0
 generalize bits BinOp.xor IntKind.u64 N (N / 2147483648) * 11400714819323198485 = x
 have e : IntKind.u64.wrap x = x % 18446744073709551616 := rfl
 rw [e]
 omega
set_option maxRecDepth 100000 in
set_option maxHeartbeats 3200000 in
theorem qlC (u : RuD) (hu0 : ¬ u.k = 0) (hu1 : ¬ u.k = 1) (c1 c2 r : Nat) (w : World) :
  Calls prog 98 #[.agg (ruL u).toArray, .agg #[.complex .f64 c1 c2, .float .f64 r]] w fun en w' => en = .returned (.int .u8 (qoG u.k c1 c2 r)) ∧ Kept w w' := by
 obtain ⟨k, ⟨⟨a0, a1, a2⟩, ⟨a3, a4, a5⟩⟩, ⟨a6, a7, a8⟩, x, y⟩ := u
 simp only at hu0 hu1 ⊢
 go_enter func98, ntmps98
 go_upto_region 1 with fail
 obtain ⟨b, w1, hw, hb, B0, B1, K1, HB⟩ := qa7 w [.int .i64 k, .bool a0, .string a1, .int .i64 a2, .bool a3, .string a4, .int .i64 a5, .bool a6, .string a7, .int .i64 a8, .float .f64 x, .float .f64 y] 31 [.complex .f64 c1 c2, .float .f64 r] 85
 rw [← hw, ← hb]; clear hw hb
 have k0 := B0.out.c 0 rfl
 have l0 := B1.out.c 0 rfl
 have l1 := B1.out.c 1 rfl
 go_upto_region 22 with fail
 clear k0 l0 l1
 have k0 := B0.out.c 0 rfl
 have l0 := B1.out.c 0 rfl
 have l1 := B1.out.c 1 rfl
 go_quiet (fail)
 obtain ⟨N, hN⟩ : ∃ N, N = qjF k c1 c2 r := ⟨_, rfl⟩
 unfold qjF at hN
 rw [← hN]
 have HN := qh hN
 clear hN k0 l0 l1
 go_upto_region 24 with fail
 obtain ⟨X, hX⟩ : ∃ X, X = qf0 N := ⟨_, rfl⟩
 have hlt := qnb N
 rw [← hX] at hlt
 unfold qf0 at hX
 rw [← hX]
 have HX := qh hX
 clear hX
 obtain ⟨i, hi⟩ : ∃ i : Nat, X / 2305843009213693952 = (i : Int) := ⟨(X / 2305843009213693952).toNat, by omega⟩
 have hi8 : i < 8 := by omega
 have HI := qmv i hi8
 clear hlt
 go_wp2_with fail
 exact bodyPost_ret (v := .int .u8 (qnm i)) (by simp [results, results98, go_sem]) rfl ⟨by
  have e1 : qf0 (qjF k c1 c2 r) = X := by rw [HX.out, HN.out]; rfl
  show Ending.returned (.int .u8 (qnm i)) = .returned (.int .u8 (qnm (qf0 (qjF k c1 c2 r) / 2305843009213693952).toNat))
  rw [e1, hi]; rfl, qaz K1.out _⟩
end
set_option maxRecDepth 100000 in
set_option maxHeartbeats 3200000 in
theorem qlX (u : RuD) (hu : u.k = 0) (hok : u.ok) (c1 c2 r : Nat) (h1 : c1 < 18446744073709551616) (h2 : c2 < 18446744073709551616) (h3 : r < 18446744073709551616) (w : World) :
  Calls prog 98 #[.agg (ruL u).toArray, .agg #[.complex .f64 c1 c2, .float .f64 r]] w fun en w' => en = .returned (.int .u8 (qk6 u c1 c2 r)) ∧ Kept w w' := by
 obtain ⟨V, hV⟩ : ∃ V, V = qk6 u c1 c2 r := ⟨_, rfl⟩
 rw [← hV]
 unfold qk6 at hV
 have CM6 := qh (fun W => qhC u.c.re u.c.im W hok.re hok.im)
 have CM3 := qh (fun W => qdW u.r W hok.r)
 by_cases hp : gsB u.c = true
 ·have hp2 : (qad u.c.re && qad u.c.im) = true := hp
  rw [hp2] at CM6
  by_cases hq : qad u.r = true
  ·rw [hq] at CM3
   rw [if_pos (by rw [hp, hq]; rfl)] at hV
   have CPX := qh (fun W => qfm c1 c2 W h1 h2)
   have FLT := qh (fun W => qd6 r W h3)
   have hg := qiu c1 c2
   have hf := qfj r
   have e1 : (qbE c1 c2).2 = 0 ∨ (qbE c1 c2).2 = 5 := by unfold qbE; split <;> simp
   have e2 : (qa9 r).2 = 0 ∨ (qa9 r).2 = 5 := by
    by_cases hh : qbQ r = true
    ·exact .inl (qgU hh)
    ·rw [qg8 hh]; exact .inr rfl
   have WIT := qh (fun W => qi4 (qbE c1 c2).1 (qa9 r).1 u.c u.r W hg hf hp hq)
   have APT := qh (fun W => qj1 (qbE c1 c2).1 (qa9 r).1 u.c u.r W hg hf hp hq)
   generalize qeK (qbE c1 c2).1 (qa9 r).1 u.c u.r = X at *
   generalize qfS (qbE c1 c2).1 (qa9 r).1 u.c u.r = Y at *
   generalize qbE c1 c2 = G at *
   generalize qa9 r = H at *
   obtain ⟨k, ⟨⟨a0, a1, a2⟩, ⟨a3, a4, a5⟩⟩, ⟨a6, a7, a8⟩, x, y⟩ := u
   obtain ⟨x1, x2⟩ := X
   obtain ⟨y1, y2⟩ := Y
   obtain ⟨⟨⟨g0, g1, g2⟩, ⟨g3, g4, g5⟩⟩, g6⟩ := G
   obtain ⟨⟨d0, d1, d2⟩, d3⟩ := H
   simp only at hu CM6 CM3 CPX FLT WIT APT hV e1 e2 ⊢
   subst hu
   have HV := qh hV
   clear hV hp hq hp2 hok hg hf
   go_enter func98, ntmps98
   go_upto_region 1 with fail
   obtain ⟨b, w1, hw, hb, B0, B1, K1, HB⟩ := qa7 w [.int .i64 0, .bool a0, .string a1, .int .i64 a2, .bool a3, .string a4, .int .i64 a5, .bool a6, .string a7, .int .i64 a8, .float .f64 x, .float .f64 y] 31 [.complex .f64 c1 c2, .float .f64 r] 85
   rw [← hw, ← hb]; clear hw hb
   have k0 := B0.out.c 0 rfl
   have l0 := B1.out.c 0 rfl
   have l1 := B1.out.c 1 rfl
   obtain ⟨s1, s2, s3⟩ : World.cell? w1 ⟨b, 1, none⟩ = some (.bool a0) ∧ World.cell? w1 ⟨b, 2, none⟩ = some (.string a1) ∧ World.cell? w1 ⟨b, 3, none⟩ = some (.int .i64 a2) := ⟨B0.out.c 1 rfl, B0.out.c 2 rfl, B0.out.c 3 rfl⟩
   obtain ⟨s4, s5, s6⟩ : World.cell? w1 ⟨b, 4, none⟩ = some (.bool a3) ∧ World.cell? w1 ⟨b, 5, none⟩ = some (.string a4) ∧ World.cell? w1 ⟨b, 6, none⟩ = some (.int .i64 a5) := ⟨B0.out.c 4 rfl, B0.out.c 5 rfl, B0.out.c 6 rfl⟩
   go_upto_region 5 with (first
    | (go_at_call 62; (with_reducible refine (CM6.out _).mono ?_); rintro e w2 ⟨rfl, hk2⟩; obtain ⟨s7, s8, s9⟩ : (World.cell? w2 ⟨b, 7, none⟩ = some (.bool a6)) ∧ (World.cell? w2 ⟨b, 8, none⟩ = some (.string a7)) ∧ (World.cell? w2 ⟨b, 9, none⟩ = some (.int .i64 a8)) := ⟨(B0.out.kept hk2).c 7 rfl, (B0.out.kept hk2).c 8 rfl, (B0.out.kept hk2).c 9 rfl⟩)
    | (go_at_call 73; (with_reducible refine (CM3.out _).mono ?_); rintro e w3 ⟨rfl, hk3⟩; have K3 := qh (hk2.trans' hk3)))
   clear s1 s2 s3 s4 s5 s6 s7 s8 s9 k0 l0 l1
   have l0 := (B1.out.kept K3.out).c 0 rfl
   have l1 := (B1.out.kept K3.out).c 1 rfl
   clear hk2 hk3 CM6 CM3
   go_upto_region 6 with (go_at_call 78; (with_reducible refine (CPX.out _).mono ?_); rintro e w4 ⟨rfl, hk4⟩)
   have K5 := qh (Kept.new (K3.out.trans' hk4) (.cells (LC1 g0 g1 g2 g3 g4 g5).toArray 28))
   have B2 := qh (Bx.new w4 (LC1 g0 g1 g2 g3 g4 g5) 28 w4.heap.size rfl)
   obtain ⟨g, hg⟩ : ∃ g, g = w4.heap.size := ⟨_, rfl⟩
   rw [← hg] at B2 ⊢
   clear hg hk4 CPX K3 l0 l1
   generalize (w4.alloc (.cells (LC1 g0 g1 g2 g3 g4 g5).toArray 28)) = w5 at *
   have l0 := (B1.out.kept K5.out).c 0 rfl
   have l1 := (B1.out.kept K5.out).c 1 rfl
   go_upto_region 7 with (go_at_call 118; (with_reducible refine (FLT.out _).mono ?_); rintro e w6 ⟨rfl, hk6⟩)
   have K7 := qh (Kept.new (K5.out.trans' hk6) (.cells (LC0 d0 d1 d2).toArray 24))
   have B3 := qh (Bx.new w6 (LC0 d0 d1 d2) 24 w6.heap.size rfl)
   replace B2 := qh ((B2.out.kept hk6).kept (Kept.new (Below.refl _ _) (.cells (LC0 d0 d1 d2).toArray 24)))
   obtain ⟨h, hh⟩ : ∃ h, h = w6.heap.size := ⟨_, rfl⟩
   rw [← hh] at B3 ⊢
   clear hh hk6 FLT K5 l0 l1
   generalize (w6.alloc (.cells (LC0 d0 d1 d2).toArray 24)) = w7 at *
   have k0 := (B0.out.kept K7.out).c 0 rfl
   rcases e1 with rfl | rfl
   ·rcases e2 with rfl | rfl
    ·obtain ⟨s1, s2, s3⟩ : (World.cell? _ ⟨b, 1, none⟩ = some (.bool a0)) ∧ (World.cell? _ ⟨b, 2, none⟩ = some (.string a1)) ∧ (World.cell? _ ⟨b, 3, none⟩ = some (.int .i64 a2)) := ⟨(B0.out.kept K7.out).c 1 rfl, (B0.out.kept K7.out).c 2 rfl, (B0.out.kept K7.out).c 3 rfl⟩
     obtain ⟨s4, s5, s6⟩ : (World.cell? _ ⟨b, 4, none⟩ = some (.bool a3)) ∧ (World.cell? _ ⟨b, 5, none⟩ = some (.string a4)) ∧ (World.cell? _ ⟨b, 6, none⟩ = some (.int .i64 a5)) := ⟨(B0.out.kept K7.out).c 4 rfl, (B0.out.kept K7.out).c 5 rfl, (B0.out.kept K7.out).c 6 rfl⟩
     obtain ⟨s7, s8, s9⟩ : (World.cell? _ ⟨b, 7, none⟩ = some (.bool a6)) ∧ (World.cell? _ ⟨b, 8, none⟩ = some (.string a7)) ∧ (World.cell? _ ⟨b, 9, none⟩ = some (.int .i64 a8)) := ⟨(B0.out.kept K7.out).c 7 rfl, (B0.out.kept K7.out).c 8 rfl, (B0.out.kept K7.out).c 9 rfl⟩
     obtain ⟨p0, p1, p2, p3, p4, p5⟩ := B2.out.c6
     obtain ⟨q0, q1, q2⟩ := B3.out.c3
     go_upto_region 10 with (go_at_call 140; (with_reducible refine (WIT.out _).mono ?_); rintro e w8 ⟨rfl, hk8⟩)
     replace K7 := qh (K7.out.trans' hk8)
     replace B2 := qh (B2.out.kept hk8)
     replace B3 := qh (B3.out.kept hk8)
     clear hk8 WIT k0 s1 s2 s3 s4 s5 s6 s7 s8 s9 p0 p1 p2 p3 p4 p5 q0 q1 q2
     obtain ⟨s1, s2, s3⟩ : (World.cell? _ ⟨b, 1, none⟩ = some (.bool a0)) ∧ (World.cell? _ ⟨b, 2, none⟩ = some (.string a1)) ∧ (World.cell? _ ⟨b, 3, none⟩ = some (.int .i64 a2)) := ⟨(B0.out.kept K7.out).c 1 rfl, (B0.out.kept K7.out).c 2 rfl, (B0.out.kept K7.out).c 3 rfl⟩
     obtain ⟨s4, s5, s6⟩ : (World.cell? _ ⟨b, 4, none⟩ = some (.bool a3)) ∧ (World.cell? _ ⟨b, 5, none⟩ = some (.string a4)) ∧ (World.cell? _ ⟨b, 6, none⟩ = some (.int .i64 a5)) := ⟨(B0.out.kept K7.out).c 4 rfl, (B0.out.kept K7.out).c 5 rfl, (B0.out.kept K7.out).c 6 rfl⟩
     obtain ⟨s7, s8, s9⟩ : (World.cell? _ ⟨b, 7, none⟩ = some (.bool a6)) ∧ (World.cell? _ ⟨b, 8, none⟩ = some (.string a7)) ∧ (World.cell? _ ⟨b, 9, none⟩ = some (.int .i64 a8)) := ⟨(B0.out.kept K7.out).c 7 rfl, (B0.out.kept K7.out).c 8 rfl, (B0.out.kept K7.out).c 9 rfl⟩
     obtain ⟨p0, p1, p2, p3, p4, p5⟩ := B2.out.c6
     obtain ⟨q0, q1, q2⟩ := B3.out.c3
     go_upto_region 11 with (go_at_call 141; (with_reducible refine (APT.out _).mono ?_); rintro e w9 ⟨rfl, hk9⟩)
     replace K7 := qh (K7.out.trans' hk9)
     clear hk9 APT s1 s2 s3 s4 s5 s6 s7 s8 s9 p0 p1 p2 p3 p4 p5 q0 q1 q2
     by_cases hx2 : x2 = 0
     ·subst hx2
      cases x1 with
      | true =>
       go_wp2_with fail
       exact bodyPost_ret (v := .int .u8 1) (by simp [results, results98, go_sem]) rfl ⟨by show Ending.returned _ = Ending.returned (.int .u8 V); rw [HV.out]; try simp, K1.out.trans' K7.out⟩
      | false =>
       by_cases hy2 : y2 = 0
       ·subst hy2
        cases y1 with
        | true =>
         go_wp2_with fail
         exact bodyPost_ret (v := .int .u8 2) (by simp [results, results98, go_sem]) rfl ⟨by show Ending.returned _ = Ending.returned (.int .u8 V); rw [HV.out]; try simp [], K1.out.trans' K7.out⟩
        | false =>
         go_wp2_with fail
         exact bodyPost_ret (v := .int .u8 0) (by simp [results, results98, go_sem]) rfl ⟨by show Ending.returned _ = Ending.returned (.int .u8 V); rw [HV.out]; try simp [], K1.out.trans' K7.out⟩
       ·have hy3 : ¬ (y1, y2) = (true, (0 : Int)) := fun e => hy2 (Prod.mk.inj e).2
        go_wp2_with fail
        exact bodyPost_ret (v := .int .u8 0) (by simp [results, results98, go_sem]) rfl ⟨by show Ending.returned _ = Ending.returned (.int .u8 V); rw [HV.out]; try simp [hy2], K1.out.trans' K7.out⟩
     ·by_cases hy2 : y2 = 0
      ·subst hy2
       cases y1 with
       | true =>
        go_wp2_with fail
        exact bodyPost_ret (v := .int .u8 2) (by simp [results, results98, go_sem]) rfl ⟨by show Ending.returned _ = Ending.returned (.int .u8 V); rw [HV.out]; try simp [hx2], K1.out.trans' K7.out⟩
       | false =>
        go_wp2_with fail
        exact bodyPost_ret (v := .int .u8 0) (by simp [results, results98, go_sem]) rfl ⟨by show Ending.returned _ = Ending.returned (.int .u8 V); rw [HV.out]; try simp [hx2], K1.out.trans' K7.out⟩
      ·have hy3 : ¬ (y1, y2) = (true, (0 : Int)) := fun e => hy2 (Prod.mk.inj e).2
       go_wp2_with fail
       exact bodyPost_ret (v := .int .u8 0) (by simp [results, results98, go_sem]) rfl ⟨by show Ending.returned _ = Ending.returned (.int .u8 V); rw [HV.out]; try simp [hx2, hy2], K1.out.trans' K7.out⟩
    ·go_wp2_with fail
     exact bodyPost_ret (v := .int .u8 0) (by simp [results, results98, go_sem]) rfl ⟨by show Ending.returned _ = Ending.returned (.int .u8 V); rw [HV.out]; try simp, K1.out.trans' K7.out⟩
   ·go_wp2_with fail
    exact bodyPost_ret (v := .int .u8 0) (by simp [results, results98, go_sem]) rfl ⟨by show Ending.returned _ = Ending.returned (.int .u8 V); rw [HV.out]; try simp, K1.out.trans' K7.out⟩
  ·have hq2 : qad u.r = false := by simpa using hq
   rw [hq2] at CM3
   rw [if_neg (by rw [hp, hq2]; simp)] at hV
   obtain ⟨k, ⟨⟨a0, a1, a2⟩, ⟨a3, a4, a5⟩⟩, ⟨a6, a7, a8⟩, x, y⟩ := u
   simp only at hu CM6 CM3 ⊢
   subst hu
   have HV := qh hV
   clear hV hp hq hp2 hq2 hok
   go_enter func98, ntmps98
   go_upto_region 1 with fail
   obtain ⟨b, w1, hw, hb, B0, B1, K1, HB⟩ := qa7 w [.int .i64 0, .bool a0, .string a1, .int .i64 a2, .bool a3, .string a4, .int .i64 a5, .bool a6, .string a7, .int .i64 a8, .float .f64 x, .float .f64 y] 31 [.complex .f64 c1 c2, .float .f64 r] 85
   rw [← hw, ← hb]; clear hw hb
   have k0 := B0.out.c 0 rfl
   have l0 := B1.out.c 0 rfl
   have l1 := B1.out.c 1 rfl
   obtain ⟨s1, s2, s3⟩ : World.cell? w1 ⟨b, 1, none⟩ = some (.bool a0) ∧ World.cell? w1 ⟨b, 2, none⟩ = some (.string a1) ∧ World.cell? w1 ⟨b, 3, none⟩ = some (.int .i64 a2) := ⟨B0.out.c 1 rfl, B0.out.c 2 rfl, B0.out.c 3 rfl⟩
   obtain ⟨s4, s5, s6⟩ : World.cell? w1 ⟨b, 4, none⟩ = some (.bool a3) ∧ World.cell? w1 ⟨b, 5, none⟩ = some (.string a4) ∧ World.cell? w1 ⟨b, 6, none⟩ = some (.int .i64 a5) := ⟨B0.out.c 4 rfl, B0.out.c 5 rfl, B0.out.c 6 rfl⟩
   go_wp2_with (first
    | (go_at_call 62; (with_reducible refine (CM6.out _).mono ?_); rintro e w2 ⟨rfl, hk2⟩; obtain ⟨s7, s8, s9⟩ : (World.cell? w2 ⟨b, 7, none⟩ = some (.bool a6)) ∧ (World.cell? w2 ⟨b, 8, none⟩ = some (.string a7)) ∧ (World.cell? w2 ⟨b, 9, none⟩ = some (.int .i64 a8)) := ⟨(B0.out.kept hk2).c 7 rfl, (B0.out.kept hk2).c 8 rfl, (B0.out.kept hk2).c 9 rfl⟩)
    | (go_at_call 73; (with_reducible refine (CM3.out _).mono ?_); rintro e w3 ⟨rfl, hk3⟩; have K3 := qh (hk2.trans' hk3)))
   exact bodyPost_ret (v := .int .u8 0) (by simp [results, results98, go_sem]) rfl ⟨by show Ending.returned _ = Ending.returned (.int .u8 V); rw [HV.out], K1.out.trans' K3.out⟩
 ·have hp2 : (qad u.c.re && qad u.c.im) = false := by
   have : gsB u.c = false := by simpa using hp
   exact this
  rw [hp2] at CM6
  rw [if_neg (by intro e; rw [Bool.and_eq_true] at e; exact hp e.1)] at hV
  obtain ⟨k, ⟨⟨a0, a1, a2⟩, ⟨a3, a4, a5⟩⟩, ⟨a6, a7, a8⟩, x, y⟩ := u
  simp only at hu CM6 CM3 ⊢
  subst hu
  have HV := qh hV
  clear hV hp hp2 hok CM3
  go_enter func98, ntmps98
  go_upto_region 1 with fail
  obtain ⟨b, w1, hw, hb, B0, B1, K1, HB⟩ := qa7 w [.int .i64 0, .bool a0, .string a1, .int .i64 a2, .bool a3, .string a4, .int .i64 a5, .bool a6, .string a7, .int .i64 a8, .float .f64 x, .float .f64 y] 31 [.complex .f64 c1 c2, .float .f64 r] 85
  rw [← hw, ← hb]; clear hw hb
  have k0 := B0.out.c 0 rfl
  have l0 := B1.out.c 0 rfl
  have l1 := B1.out.c 1 rfl
  obtain ⟨s1, s2, s3⟩ : World.cell? w1 ⟨b, 1, none⟩ = some (.bool a0) ∧ World.cell? w1 ⟨b, 2, none⟩ = some (.string a1) ∧ World.cell? w1 ⟨b, 3, none⟩ = some (.int .i64 a2) := ⟨B0.out.c 1 rfl, B0.out.c 2 rfl, B0.out.c 3 rfl⟩
  obtain ⟨s4, s5, s6⟩ : World.cell? w1 ⟨b, 4, none⟩ = some (.bool a3) ∧ World.cell? w1 ⟨b, 5, none⟩ = some (.string a4) ∧ World.cell? w1 ⟨b, 6, none⟩ = some (.int .i64 a5) := ⟨B0.out.c 4 rfl, B0.out.c 5 rfl, B0.out.c 6 rfl⟩
  go_wp2_with (go_at_call 62; (with_reducible refine (CM6.out _).mono ?_); rintro e w2 ⟨rfl, hk2⟩)
  exact bodyPost_ret (v := .int .u8 0) (by simp [results, results98, go_sem]) rfl ⟨by show Ending.returned _ = Ending.returned (.int .u8 V); rw [HV.out], K1.out.trans' hk2⟩
section
set_option maxHeartbeats 3200000
set_option maxRecDepth 100000
def qhN (u : RuD) (c1 c2 r : Nat) : Int := if u.k = 0 then qk6 u c1 c2 r else if u.k = 1 then (if (FloatKind.f64.format.order c1 u.x == some .gt) = true then 2 else if (FloatKind.f64.format.order r u.y == some .lt) = true then 1 else 0) else qoG u.k c1 c2 r
def qfK (u : RuD) (c1 c2 r : Nat) : Nat := if qhN u c1 c2 r = 1 then 1 else if qhN u c1 c2 r = 2 then 2 else 0
theorem qh9 (u : RuD) (c1 c2 r : Nat) : qfK u c1 c2 r ≤ 2 := by unfold qfK; split <;> (try split) <;> omega
theorem qiX (u : RuD) (hok : u.ok) (c1 c2 r : Nat) (h1 : c1 < 18446744073709551616) (h2 : c2 < 18446744073709551616) (h3 : r < 18446744073709551616) (w : World) :
  Calls prog 98 #[.agg (ruL u).toArray, .agg #[.complex .f64 c1 c2, .float .f64 r]] w fun en w' => en = .returned (.int .u8 (qhN u c1 c2 r)) ∧ Kept w w' := by
 unfold qhN
 split
 ·exact qlX u (by assumption) hok c1 c2 r h1 h2 h3 w
 ·split
  ·exact qlm u (by assumption) c1 c2 r w
  ·exact qlC u (by assumption) (by assumption) c1 c2 r w
theorem qjn (u : RuD) (hok : u.ok) (c1 c2 r : Nat) (h1 : c1 < 18446744073709551616) (h2 : c2 < 18446744073709551616) (h3 : r < 18446744073709551616) (w : World) :
  Calls prog 59 #[.agg (ruL u).toArray, .agg #[.complex .f64 c1 c2, .float .f64 r]] w fun en w' => en = .returned (.int .u8 (qfK u c1 c2 r)) ∧ Kept w w' := by
 have TEL := qh (fun W => qiX u hok c1 c2 r h1 h2 h3 W)
 obtain ⟨V, hV⟩ : ∃ V : Int, V = (qfK u c1 c2 r : Nat) := ⟨_, rfl⟩
 rw [← hV]
 unfold qfK at hV
 generalize qhN u c1 c2 r = T at *
 obtain ⟨k, ⟨⟨a0, a1, a2⟩, ⟨a3, a4, a5⟩⟩, ⟨a6, a7, a8⟩, x, y⟩ := u
 try simp only at TEL ⊢
 by_cases t1 : T = 1
 ·subst t1
  have HV := qh (show V = 1 from hV)
  clear hV hok
  go_enter func59, ntmps59
  go_upto_region 1 with fail
  obtain ⟨b, w1, hw, hb, B0, B1, K1, HB⟩ := qa7 w [.int .i64 k, .bool a0, .string a1, .int .i64 a2, .bool a3, .string a4, .int .i64 a5, .bool a6, .string a7, .int .i64 a8, .float .f64 x, .float .f64 y] 31 [.complex .f64 c1 c2, .float .f64 r] 85
  rw [← hw, ← hb]; clear hw hb
  refine wp_region_list ?_
  refine wpList_plain rfl fun K hK => qai (b := b) (n := 12) _ rfl rfl B0.out rfl underlying31 rfl (by kernel_rfl) (hK _ _ ?_)
  clear hK K
  have l0 := B1.out.c 0 rfl
  have l1 := B1.out.c 1 rfl
  go_wp2_with (go_at_call 98; (with_reducible refine (TEL.out _).mono ?_); rintro e w2 ⟨rfl, hk2⟩)
  exact bodyPost_ret (v := .int .u8 1) (by simp [results, results59, go_sem]) rfl ⟨by show Ending.returned _ = Ending.returned (.int .u8 V); rw [HV.out], K1.out.trans' hk2⟩
 ·by_cases t2 : T = 2
  ·subst t2
   have HV := qh (show V = 2 from hV)
   clear hV hok
   go_enter func59, ntmps59
   go_upto_region 1 with fail
   obtain ⟨b, w1, hw, hb, B0, B1, K1, HB⟩ := qa7 w [.int .i64 k, .bool a0, .string a1, .int .i64 a2, .bool a3, .string a4, .int .i64 a5, .bool a6, .string a7, .int .i64 a8, .float .f64 x, .float .f64 y] 31 [.complex .f64 c1 c2, .float .f64 r] 85
   rw [← hw, ← hb]; clear hw hb
   refine wp_region_list ?_
   refine wpList_plain rfl fun K hK => qai (b := b) (n := 12) _ rfl rfl B0.out rfl underlying31 rfl (by kernel_rfl) (hK _ _ ?_)
   clear hK K
   have l0 := B1.out.c 0 rfl
   have l1 := B1.out.c 1 rfl
   go_wp2_with (go_at_call 98; (with_reducible refine (TEL.out _).mono ?_); rintro e w2 ⟨rfl, hk2⟩)
   exact bodyPost_ret (v := .int .u8 2) (by simp [results, results59, go_sem]) rfl ⟨by show Ending.returned _ = Ending.returned (.int .u8 V); rw [HV.out], K1.out.trans' hk2⟩
  ·have HV := qh (show V = 0 by rw [hV, if_neg t1, if_neg t2]; rfl)
   have t3 : (T != 1) = true := by simpa using t1
   have t4 : (T != 2) = true := by simpa using t2
   clear hV hok
   go_enter func59, ntmps59
   go_upto_region 1 with fail
   obtain ⟨b, w1, hw, hb, B0, B1, K1, HB⟩ := qa7 w [.int .i64 k, .bool a0, .string a1, .int .i64 a2, .bool a3, .string a4, .int .i64 a5, .bool a6, .string a7, .int .i64 a8, .float .f64 x, .float .f64 y] 31 [.complex .f64 c1 c2, .float .f64 r] 85
   rw [← hw, ← hb]; clear hw hb
   refine wp_region_list ?_
   refine wpList_plain rfl fun K hK => qai (b := b) (n := 12) _ rfl rfl B0.out rfl underlying31 rfl (by kernel_rfl) (hK _ _ ?_)
   clear hK K
   have l0 := B1.out.c 0 rfl
   have l1 := B1.out.c 1 rfl
   go_wp2_with (go_at_call 98; (with_reducible refine (TEL.out _).mono ?_); rintro e w2 ⟨rfl, hk2⟩)
   exact bodyPost_ret (v := .int .u8 0) (by simp [results, results59, go_sem]) rfl ⟨by show Ending.returned _ = Ending.returned (.int .u8 V); rw [HV.out], K1.out.trans' hk2⟩
theorem qiS (v : Value) (w : World) : (Go.method 377 31 v "Tell").run prog w = .ok (98, v) w := by kernel_rfl
attribute [local go_sem] qiS
theorem qk8 (u : RuD) (hok : u.ok) (c1 c2 r : Nat) (h1 : c1 < 18446744073709551616) (h2 : c2 < 18446744073709551616) (h3 : r < 18446744073709551616) (w : World) :
  Calls prog 32 #[.iface 31 (.agg (ruL u).toArray), .agg #[.complex .f64 c1 c2, .float .f64 r]] w fun en w' => en = .returned (.int .u8 (qfK u c1 c2 r)) ∧ Kept w w' := by
 have TEL := qh (fun W => qiX u hok c1 c2 r h1 h2 h3 W)
 obtain ⟨V, hV⟩ : ∃ V : Int, V = (qfK u c1 c2 r : Nat) := ⟨_, rfl⟩
 rw [← hV]
 unfold qfK at hV
 generalize qhN u c1 c2 r = T at *
 generalize (ruL u).toArray = R at *
 clear hok
 by_cases t1 : T = 1
 ·subst t1
  have HV := qh (show V = 1 from hV)
  clear hV
  go_enter func32, ntmps32
  go_upto_region 1 with fail
  obtain ⟨b, w1, hw, hb, B0, K1, HB⟩ := qa4 w [.complex .f64 c1 c2, .float .f64 r] 85
  rw [← hw, ← hb]; clear hw hb
  have l0 := B0.out.c 0 rfl
  have l1 := B0.out.c 1 rfl
  go_wp2_with (go_at_call 98; (with_reducible refine (TEL.out _).mono ?_); rintro e w2 ⟨rfl, hk2⟩)
  exact bodyPost_ret (v := .int .u8 1) (by simp [results, results32, go_sem]) rfl ⟨by show Ending.returned _ = Ending.returned (.int .u8 V); rw [HV.out], K1.out.trans' hk2⟩
 ·by_cases t2 : T = 2
  ·subst t2
   have HV := qh (show V = 2 from hV)
   clear hV
   go_enter func32, ntmps32
   go_upto_region 1 with fail
   obtain ⟨b, w1, hw, hb, B0, K1, HB⟩ := qa4 w [.complex .f64 c1 c2, .float .f64 r] 85
   rw [← hw, ← hb]; clear hw hb
   have l0 := B0.out.c 0 rfl
   have l1 := B0.out.c 1 rfl
   go_wp2_with (go_at_call 98; (with_reducible refine (TEL.out _).mono ?_); rintro e w2 ⟨rfl, hk2⟩)
   exact bodyPost_ret (v := .int .u8 2) (by simp [results, results32, go_sem]) rfl ⟨by show Ending.returned _ = Ending.returned (.int .u8 V); rw [HV.out], K1.out.trans' hk2⟩
  ·have HV := qh (show V = 0 by rw [hV, if_neg t1, if_neg t2]; rfl)
   have t3 : (T == 1) = false := by simpa using t1
   have t4 : (T == 2) = false := by simpa using t2
   clear hV
   go_enter func32, ntmps32
   go_upto_region 1 with fail
   obtain ⟨b, w1, hw, hb, B0, K1, HB⟩ := qa4 w [.complex .f64 c1 c2, .float .f64 r] 85
   rw [← hw, ← hb]; clear hw hb
   have l0 := B0.out.c 0 rfl
   have l1 := B0.out.c 1 rfl
   go_wp2_with (go_at_call 98; (with_reducible refine (TEL.out _).mono ?_); rintro e w2 ⟨rfl, hk2⟩)
   exact bodyPost_ret (v := .int .u8 0) (by simp [results, results32, go_sem]) rfl ⟨by show Ending.returned _ = Ending.returned (.int .u8 V); rw [HV.out], K1.out.trans' hk2⟩
end
section
set_option maxHeartbeats 3200000
set_option maxRecDepth 100000
attribute [local go_sem] run_float_arith qaI qaJ qau qah qae
theorem sub_self {x : Nat} (hx : x < 18446744073709551616) (h : qbQ x = true) : floatBits .sub .f64 x x = some 0 := by
 show Ieee.double.sub x x = some 0
 unfold Ieee.Format.sub
 rw [qcF hx h]
 generalize decide (SG ≤ x) = s
 generalize qar x = m
 generalize qbk x = e
 have hs : (Ieee.Datum.number s m e).sum (Ieee.Datum.number s m e).opposite = some (.number false 0 e) := by
  show Ieee.Datum.sum (.number s m e) (.number (!s) m e) = _
  unfold Ieee.Datum.sum
  have h0 : Ieee.signed s m (e - min e e).toNat + Ieee.signed (!s) m (e - min e e).toNat = 0 := by
   simp only [qdy]
   cases s
   ·simp [qbP]; omega
   ·simp [qbP]; omega
  simp only [h0]
  rw [Int.min_self]
  cases s <;> rfl
 rw [hs]
 rfl
theorem qjd (x : Nat) (hx : x < 18446744073709551616) (h : qbQ x = true) (w : World) : Calls prog 114 #[.float .f64 x] w fun e w' => e = .returned (.bool true) ∧ w = w' := by
 have hs := sub_self hx h
 have ho : (FloatKind.f64.format.order 0 0 == some .eq) = true := by decide
 go_enter func114, ntmps114
 go_wp2
 go_ret
 exact ⟨rfl, rfl⟩
abbrev qng (κ : Nat) : Value := .func (.func 112) #[] #[.pointer (some ⟨κ, 0, none⟩)]
theorem qmb (n : DyD) (κ x : Nat) (w : World) (hκ : Bx w κ (LC0 n.neg n.n n.e)) (hn : qad n = true) (hx : x < 9223372036854775808) (hT : T32 w) :
  Calls prog 112 #[.int .i64 (x : Int), .pointer (some ⟨κ, 0, none⟩)] w fun en w' => en = .returned (.bool (qbb n x)) ∧ Kept w w' := by
 have FL : Hid (∀ W, Kept w W → Calls prog 101 #[.float .f64 x] W fun en w' => en = .returned (qaf (qa9 x)) ∧ Kept W w') := fun W h => qeY x W (by omega) (hT.kept h)
 have h1 : qad (qa9 x).1 = true := qfj x
 unfold qbb
 generalize qa9 x = F at *
 have MUL : Hid (∀ W, Kept w W → Calls prog 97 #[.agg #[.bool F.1.neg, .string F.1.n, .int .i64 F.1.e], .agg #[.bool F.1.neg, .string F.1.n, .int .i64 F.1.e]] W fun en w' => en = .returned (qaf (mulS F.1 F.1)) ∧ Kept W w') := fun W h => qgQ F.1 F.1 W h1 h1 (hT.kept h)
 have h2 := qdm F.1 F.1
 generalize mulS F.1 F.1 = M at *
 have CMP := qh (fun W => qdr M.1 n W h2 hn)
 generalize qbx M.1 n = k at *
 obtain ⟨⟨f0, f1, f2⟩, f3⟩ := F
 obtain ⟨⟨m0, m1, m2⟩, m3⟩ := M
 obtain ⟨n0, n1, n2⟩ := n
 simp only at FL MUL CMP hκ ⊢
 have HK := qh hκ
 have ew : IntKind.u64.wrap (x : Int) = (x : Int) := by rw [IntKind.wrap_u64]; omega
 clear h1 h2 hn hκ hT
 go_enter func112, ntmps112
 go_upto_region 2 with (go_at_call 101; (with_reducible refine (FL.out _ (Below.refl _ _)).mono ?_); rintro e w3 ⟨rfl, hk3⟩)
 have K4 := qh (Kept.new hk3 (.cells (LC0 f0 f1 f2).toArray 24))
 have B1 := qh (Bx.new w3 (LC0 f0 f1 f2) 24 w3.heap.size rfl)
 obtain ⟨g, hg⟩ : ∃ g, g = w3.heap.size := ⟨_, rfl⟩
 rw [← hg] at B1 ⊢
 clear hg hk3 FL
 generalize (w3.alloc (.cells (LC0 f0 f1 f2).toArray 24)) = w4 at *
 obtain ⟨c0, c1, c2⟩ := B1.out.c3
 go_upto_region 3 with (go_at_call 97; (with_reducible refine (MUL.out _ K4.out).mono ?_); rintro e w5 ⟨rfl, hk5⟩)
 have K6 := qh (Kept.new (K4.out.trans' hk5) (.cells (LC0 m0 m1 m2).toArray 24))
 have B2 := qh (Bx.new w5 (LC0 m0 m1 m2) 24 w5.heap.size rfl)
 obtain ⟨g2, hg2⟩ : ∃ g, g = w5.heap.size := ⟨_, rfl⟩
 rw [← hg2] at B2 ⊢
 clear hg2 hk5 MUL K4 B1 c0 c1 c2
 generalize (w5.alloc (.cells (LC0 m0 m1 m2).toArray 24)) = w6 at *
 obtain ⟨c0, c1, c2⟩ := (HK.out.kept K6.out).c3
 obtain ⟨d0, d1, d2⟩ := B2.out.c3
 go_wp2_with (go_at_call 69; (with_reducible refine (CMP.out _).mono ?_); rintro e w7 ⟨rfl, hk7⟩)
 go_ret
 exact ⟨rfl, K6.out.trans' hk7⟩
theorem qlY {i j h : Nat} (hi : i < 9223372036854775808) (hj : j < 9223372036854775808) (hh : h = (i + j) / 2) : wrap64 (IntKind.u64.wrap (wrap64 ((i : Int) + j)) / 2) = (h : Int) := by
 rw [IntKind.wrap_u64]
 unfold wrap64
 omega
theorem qnB {N : Nat} (h : N < 9223372036854775808) : N - 0 < 2 ^ 64 := by
 rw [show (2 : Nat) ^ 64 = 18446744073709551616 by decide]; omega
theorem qnS {i j k : Nat} (h : j - i < 2 ^ (k + 1)) (hij : i < j) : (i + j) / 2 - i < 2 ^ k ∧ j - ((i + j) / 2 + 1) < 2 ^ k := by
 rw [Nat.pow_succ] at h
 omega
theorem qjZ (f : Nat → Bool) (κ N : Nat) (w : World) (hN : N < 9223372036854775000) (hf : ∀ x W, x < N → Kept w W → Calls prog 112 #[.int .i64 (x : Int), .pointer (some ⟨κ, 0, none⟩)] W fun en w' => en = .returned (.bool (f x)) ∧ Kept W w') :
  Calls prog 113 #[.int .i64 (N : Int), qng κ] w fun en w' => en = .returned (.int .i64 (qaO f 64 0 N : Nat)) ∧ Kept w w' := by
 have HF := qh hf
 obtain ⟨R, hR⟩ : ∃ R, R = qaO f 64 0 N := ⟨_, rfl⟩
 rw [← hR]
 have HR := qh hR
 have H64 := qh (qnB (N := N) (by omega))
 clear hf hR
 go_enter func113, ntmps113
 go_wp2_with fail
 go_loopg [5, 6, 7] 64 (fun gh v5 v6 v7 wr => ∃ i j : Nat, v5 = .int .i64 (i : Int) ∧ v6 = .int .i64 (j : Int) ∧ i ≤ j ∧ j ≤ N ∧ j - i < 2 ^ gh ∧ qaO f gh i j = R ∧ Kept w wr)
 case atStart => exact ⟨0, N, rfl, rfl, Nat.zero_le _, Nat.le_refl _, H64.out, HR.out.symm, Below.refl _ _⟩
 case round =>
  obtain ⟨i, j, rfl, rfl, hij, hjN, hp, hs, hk⟩ := hrel
  have HK := qh hk
  have HS := qh hs
  clear hk hs
  by_cases hlt : i < j
  ·cases gk with
   | zero => simp at hp; omega
   | succ gh =>
    have hi1 : (i : Int) < j := by omega
    obtain ⟨h1, h2⟩ := qnS hp hlt
    obtain ⟨h, hh⟩ : ∃ h : Nat, h = (i + j) / 2 := ⟨_, rfl⟩
    have hhI : ((i : Int) + j) / 2 = (h : Int) := by omega
    have hiB : i < 9223372036854775808 := by omega
    have hjB : j < 9223372036854775808 := by omega
    have HH := qh (And.intro hh (And.intro h1 h2))
    have hhN : h < N := by omega
    have hb1 : i ≤ h := by omega
    have hb2 : h < j := by omega
    have HST : Hid ((if f h then qaO f gh i h else qaO f gh (h + 1) j) = R) := by
     have := HS.out
     unfold qaO at this
     rw [if_pos hlt, ← hh] at this
     exact this
    have CF : Hid (Calls prog 112 #[.int .i64 (h : Int), .pointer (some ⟨κ, 0, none⟩)] wr fun en w' => en = .returned (.bool (f h)) ∧ Kept wr w') := HF.out h wr hhN HK.out
    have hw : wrap64 (IntKind.u64.wrap (wrap64 ((i : Int) + j)) / 2) = (h : Int) := qlY hiB hjB hh
    clear hh h1 h2 hp HS
    cases hfh : f h with
    | true =>
     have HST2 := qh (show qaO f gh i h = R by have := HST.out; rw [hfh] at this; exact this)
     rw [hfh] at CF
     go_wp2_with (go_at_call 112; (with_reducible refine CF.out.mono ?_); rintro e w3 ⟨rfl, hk3⟩)
     go_roundg gh
     case measure => omega
     case rel => exact ⟨i, h, rfl, rfl, by omega, by omega, by have := HH.out; omega, HST2.out, HK.out.trans' hk3⟩
    | false =>
     have HST2 := qh (show qaO f gh (h + 1) j = R by have := HST.out; rw [hfh] at this; exact this)
     rw [hfh] at CF
     go_wp2_with (go_at_call 112; (with_reducible refine CF.out.mono ?_); rintro e w3 ⟨rfl, hk3⟩)
     go_roundg gh
     case measure => omega
     case rel => exact ⟨h + 1, j, by go_num, rfl, by omega, by omega, by have := HH.out; omega, HST2.out, HK.out.trans' hk3⟩
  ·have hi1 : ¬ (i : Int) < j := by omega
   have HST := qh (show i = R by
    have := HS.out
    cases gk with
    | zero => exact this
    | succ gh => unfold qaO at this; rw [if_neg hlt] at this; exact this)
   clear hp HS
   go_wp2_with fail
   go_ret
   exact ⟨qaT (by rw [HST.out]), HK.out⟩
theorem qnQ (n : DyD) (w : World) (hn : qad n = true) (hT : T32 w) :
  Calls prog 70 #[.agg #[.bool n.neg, .string n.n, .int .i64 n.e]] w fun en w' => en = .returned (if qbb n qbB then .tuple #[.float .f64 (qaO (qbb n) 64 0 qbB), .bool true] else .tuple #[.float .f64 0, .bool false]) ∧ Kept w w' := by
 obtain ⟨V, hV⟩ : ∃ V : Value, V = if qbb n qbB then .tuple #[.float .f64 (qaO (qbb n) 64 0 qbB), .bool true] else .tuple #[.float .f64 0, .bool false] := ⟨_, rfl⟩
 rw [← hV]
 have RF : Hid (∀ (κ x : Nat) W, Kept w W → Bx W κ (LC0 n.neg n.n n.e) → x < 9223372036854775808 → Calls prog 112 #[.int .i64 (x : Int), .pointer (some ⟨κ, 0, none⟩)] W fun en w' => en = .returned (.bool (qbb n x)) ∧ Kept W w') := fun κ x W h hb hx => qmb n κ x W hb hn hx (hT.kept h)
 have hso := fun (h : qbb n qbB = true) => qfT (f := qbb n) 64 0 qbB (by omega) (by decide) h
 have hmf : ∀ (κ : Nat) (W : World), (Instr.makeFunc (.func 112) #[] #[.pointer (some ⟨κ, 0, none⟩)]).run prog W = .ok (qng κ) W := fun _ _ => rfl
 generalize qbb n = f at *
 obtain ⟨n0, n1, n2⟩ := n
 simp only at RF ⊢
 have HV := qh hV
 have HSO := qh hso
 clear hV hso hn hT
 go_enter func70, ntmps70
 go_upto_region 1 with fail
 obtain ⟨b, w1, hw, hb, B0, K1, HB⟩ := qa4 w (LC0 n0 n1 n2) 24
 rw [← hw, ← hb]; clear hw hb
 have C0 : Hid (Calls prog 112 #[.int .i64 9218868437227405311, .pointer (some ⟨b, 0, none⟩)] w1 fun en w' => en = .returned (.bool (f qbB)) ∧ Kept w1 w') := RF.out b qbB w1 K1.out B0.out (by decide)
 cases hr : f qbB with
 | false =>
  rw [hr] at C0
  have HV2 := qh (show V = .tuple #[.float .f64 0, .bool false] by rw [HV.out, hr]; rfl)
  go_wp2_with (go_at_call 112; (with_reducible refine C0.out.mono ?_); rintro e w3 ⟨rfl, hk3⟩)
  exact bodyPost_ret (v := .tuple #[.float .f64 0, .bool false]) (by simp [results, results70, go_sem]) rfl ⟨by rw [HV2.out], K1.out.trans' hk3⟩
 | true =>
  rw [hr] at C0
  have HV2 := qh (show V = .tuple #[.float .f64 (qaO f 64 0 qbB), .bool true] by rw [HV.out, hr]; rfl)
  obtain ⟨s, hs⟩ : ∃ s, s = qaO f 64 0 qbB := ⟨_, rfl⟩
  have hsM : s ≤ 9218868437227405311 := by rw [hs]; exact (HSO.out hr).2.2
  have hfin : qbQ s = true := qoi hsM
  have FIN := qh (fun W => qjd s (by omega) hfin W)
  have SE : Hid (∀ W, Kept w1 W → Calls prog 113 #[.int .i64 9218868437227405311, qng b] W fun en w' => en = .returned (.int .i64 (s : Int)) ∧ Kept W w') := fun W h => by
   rw [hs]
   exact qjZ f b qbB W (by decide) (fun x W' hx hW' => RF.out b x W' ((K1.out.trans' h).trans' hW') ((B0.out.kept h).kept hW') (by unfold qbB at hx; omega))
  rw [← hs] at HV2
  have ew : IntKind.u64.wrap (s : Int) = (s : Int) := by rw [IntKind.wrap_u64]; omega
  clear hs hfin
  go_wp2_with (first
   | (go_at_call 112; (with_reducible refine C0.out.mono ?_); rintro e w3 ⟨rfl, hk3⟩; have K3 := qh hk3; clear hk3)
   | (go_at_call 113; (with_reducible refine (SE.out _ K3.out).mono ?_); rintro e w4 ⟨rfl, hk4⟩; have K4 := qh (K3.out.trans' hk4); clear hk4)
   | (go_at_call 114; (with_reducible refine (FIN.out _).mono ?_); rintro e w5 ⟨rfl, rfl⟩))
  exact bodyPost_ret (v := .tuple #[.float .f64 s, .bool true]) (by simp [results, results70, go_sem]) rfl ⟨by rw [HV2.out], K1.out.trans' K4.out⟩
end
section
set_option maxHeartbeats 25600000
set_option maxRecDepth 100000
attribute [local go_sem] run_float_arith qaI qaJ qau qah qae
abbrev qh7 (x : BaD × Int) : Value := .tuple #[.agg #[.complex .f64 x.1.re x.1.im, .float .f64 x.1.r], .int .i64 x.2]
theorem qkv (s : SqD) (w : World) (hs : sqB s = true) (hT : T32 w) (hc : qaA s = none) :
  Calls prog 31 #[.agg #[.bool s.left.neg, .string s.left.n, .int .i64 s.left.e, .bool s.low.neg, .string s.low.n, .int .i64 s.low.e, .int .i64 s.e]] w fun en w' => en = .returned (qh7 (qaj s)) ∧ Kept w w' := by
 have HV := qh (show qaj s = (⟨0, 0, 0⟩, 4) by unfold qaj; rw [hc])
 rw [HV.out]
 have RT : Hid (∀ W, Calls prog 54 #[.agg #[.bool s.left.neg, .string s.left.n, .int .i64 s.left.e, .bool s.low.neg, .string s.low.n, .int .i64 s.low.e, .int .i64 s.e]] W fun en w' => en = .returned (.int .i64 0) ∧ Kept W w') := fun W => by
  have := qbr s W (qde hs)
  rwa [hs] at this
 have CO : Hid (∀ W, Kept w W → Calls prog 22 #[.agg #[.bool s.left.neg, .string s.left.n, .int .i64 s.left.e, .bool s.low.neg, .string s.low.n, .int .i64 s.low.e, .int .i64 s.e]] W fun en w' => en = .returned (.tuple #[.agg ZL1.toArray, .int .i64 4]) ∧ Kept W w') := fun W h => by
  have := qdL s W hs (hT.kept h)
  rwa [hc] at this
 obtain ⟨⟨a0, a1, a2⟩, ⟨a3, a4, a5⟩, a6⟩ := s
 simp only at RT CO ⊢
 clear hs hc hT HV
 go_enter func31, ntmps31
 go_upto_region 1 with fail
 obtain ⟨b, w1, hw, hb, B0, B1, K1, HB⟩ := qa7 w (LC3 a0 a1 a2 a3 a4 a5 a6) 26 [.complex .f64 0 0, .float .f64 0] 85
 rw [← hw, ← hb]; clear hw hb
 obtain ⟨c0, c1, c2, c3, c4, c5, c6⟩ := B0.out.c7
 go_upto_region 3 with (go_at_call 54; (with_reducible refine (RT.out _).mono ?_); rintro e w2 ⟨rfl, hk2⟩)
 have K2 := qh hk2
 clear hk2 c0 c1 c2 c3 c4 c5 c6 RT
 refine wp_region_list ?_
 refine wpList_plain rfl fun K hK => qai (b := b) (n := 7) _ rfl rfl (B0.out.kept K2.out) rfl underlying26 rfl (by kernel_rfl) (hK _ _ ?_)
 clear hK K
 refine wpList_plain rfl fun K hK => ?_
 go_step
 (with_reducible refine (CO.out _ (K1.out.trans' K2.out)).mono ?_); rintro e w3 ⟨rfl, hk3⟩
 refine hK _ _ ?_
 clear hK K CO
 refine wpList_plain rfl fun K hK => BigFrame.wp_move _ rfl (hK _ _ ?_)
 clear hK K
 refine wpList_plain rfl fun K hK => ?_
 go_step
 refine hK _ _ ?_
 clear hK K
 refine wpList_plain rfl fun K hK => ?_
 go_step
 refine hK _ _ ?_
 clear hK K
 refine wpList_plain rfl fun K hK => ?_
 go_step
 refine hK _ _ ?_
 clear hK K
 have HG := qh (show w1.heap.size ≤ w3.heap.size from (K2.out.trans' hk3).size)
 have K4 := qh (Kept.new (K2.out.trans' hk3) (.cells ZL1.toArray 64))
 have B2 := qh (Bx.new w3 ZL1 64 w3.heap.size rfl)
 obtain ⟨g, hg⟩ : ∃ g, g = w3.heap.size := ⟨_, rfl⟩
 rw [← hg] at B2 HG ⊢
 clear hg hk3
 generalize World.alloc w3 _ = w4 at *
 refine wpList_plain rfl fun K hK => qaa (b := g) (n := 24) _ _ rfl rfl rfl B2.out rfl rfl (by kernel_rfl) rfl (hK _ _ ?_)
 clear hK K
 replace B2 := qh (B2.out.row ZL1)
 replace K4 := qh (Kept.row K4.out HG.out ZL1)
 generalize World.setRow w4 _ _ = w5 at *
 refine wpList_plain rfl fun K hK => ?_
 go_step
 refine hK _ _ ?_
 clear hK K
 obtain ⟨re0, re1⟩ : (World.cell? _ ⟨b + 1, 0, none⟩ = some (.complex .f64 0 0)) ∧ (World.cell? _ ⟨b + 1, 1, none⟩ = some (.float .f64 0)) := ⟨(B1.out.kept K4.out).c 0 rfl, (B1.out.kept K4.out).c 1 rfl⟩
 obtain ⟨rf0, rf1⟩ : (World.frozen? _ ⟨b + 1, 0, none⟩ = false) ∧ (World.frozen? _ ⟨b + 1, 1, none⟩ = false) := ⟨(B1.out.kept K4.out).f 0, (B1.out.kept K4.out).f 1⟩
 go_wp2_with fail
 exact bodyPost_ret (v := .tuple #[.agg #[.complex .f64 0 0, .float .f64 0], .int .i64 4]) (by simp [results, results31, go_sem, re0, re1]) rfl ⟨rfl, ((K1.out.trans' K4.out).set (b := b + 1) (by have := HB.out; omega) 0 _).set (b := b + 1) (by have := HB.out; omega) 1 _⟩
theorem qkd (s : SqD) (X Y : DyD) (w : World) (hs : sqB s = true) (hT : T32 w) (hX : qad X = true) (hY : qad Y = true) (hc : qaA s = some [⟨s.left, s.low⟩, ⟨X, s.low⟩, ⟨s.left, Y⟩, ⟨X, Y⟩]) :
  Calls prog 31 #[.agg #[.bool s.left.neg, .string s.left.n, .int .i64 s.left.e, .bool s.low.neg, .string s.low.n, .int .i64 s.low.e, .int .i64 s.e]] w fun en w' => en = .returned (qh7 (qaj s)) ∧ Kept w w' := by
 have RT : Hid (∀ W, Calls prog 54 #[.agg #[.bool s.left.neg, .string s.left.n, .int .i64 s.left.e, .bool s.low.neg, .string s.low.n, .int .i64 s.low.e, .int .i64 s.e]] W fun en w' => en = .returned (.int .i64 0) ∧ Kept W w') := fun W => by
  have := qbr s W (qde hs)
  rwa [hs] at this
 have CO : Hid (∀ W, Kept w W → Calls prog 22 #[.agg #[.bool s.left.neg, .string s.left.n, .int .i64 s.left.e, .bool s.low.neg, .string s.low.n, .int .i64 s.low.e, .int .i64 s.e]] W fun en w' => en = .returned (.tuple #[.agg #[.bool s.left.neg, .string s.left.n, .int .i64 s.left.e, .bool s.low.neg, .string s.low.n, .int .i64 s.low.e, .bool X.neg, .string X.n, .int .i64 X.e, .bool s.low.neg, .string s.low.n, .int .i64 s.low.e, .bool s.left.neg, .string s.left.n, .int .i64 s.left.e, .bool Y.neg, .string Y.n, .int .i64 Y.e, .bool X.neg, .string X.n, .int .i64 X.e, .bool Y.neg, .string Y.n, .int .i64 Y.e], .int .i64 0]) ∧ Kept W w') := fun W h => by
  have := qdL s W hs (hT.kept h)
  rwa [hc] at this
 have MID : Hid (∀ W, Kept w W → Calls prog 64 #[.agg #[.bool s.left.neg, .string s.left.n, .int .i64 s.left.e, .bool s.low.neg, .string s.low.n, .int .i64 s.low.e, .int .i64 s.e]] W fun en w' => en = .returned (qaC (qbu s)) ∧ Kept W w') := fun W h => qkC s W hs (hT.kept h)
 have HT := qh hT
 have HM : (qbu s).2 = 0 ∨ qbu s = (zG, 4) := qeG _ _
 have hMo : gsB (qbu s).1 = true := qgu hs
 obtain ⟨hs1, hs2, -, -⟩ := qas.1 hs
 have NEAR := qh (fun W => qll (qbu s).1 W hMo)
 have hP : qaQ (qbu s).1.re < 18446744073709551616 := qdY (qam.1 hMo).1
 have hQ : qaQ (qbu s).1.im < 18446744073709551616 := qdY (qam.1 hMo).2
 have CPX : Hid (∀ W, Kept w W → Calls prog 66 #[.complex .f64 (qaQ (qbu s).1.re) (qaQ (qbu s).1.im)] W fun en w' => en = .returned (qaC (qbE (qaQ (qbu s).1.re) (qaQ (qbu s).1.im))) ∧ Kept W w') := fun W h => qio _ _ W hP hQ (hT.kept h)
 obtain ⟨V, hE⟩ : ∃ V, V = qaj s := ⟨_, rfl⟩
 rw [← hE]
 unfold qaj at hE
 rw [hc] at hE
 simp only at hE
 generalize qbu s = M at *
 generalize qaQ M.1.re = P at *
 generalize qaQ M.1.im = Q at *
 have hZ := qiG P Q
 have hZo : gsB (qbE P Q).1 = true := qiu P Q
 have hZe : (qbE P Q).2 = 0 ∨ (qbE P Q).2 = 5 := by unfold qbE; split; exact .inl rfl; exact .inr rfl
 obtain ⟨F, hF⟩ : ∃ F, F = qd0 ⟨(qa9 P).1, (qa9 Q).1⟩ [⟨s.left, s.low⟩, ⟨X, s.low⟩, ⟨s.left, Y⟩, ⟨X, Y⟩] zD := ⟨_, rfl⟩
 rw [← hF] at hE
 have HC0 := qh (show M.2 ≠ 0 → V = (⟨0, 0, 0⟩, 4) from fun h => by rw [hE, if_neg h])
 have HC1 := qh (show M.2 = 0 → (qbE P Q).2 ≠ 0 → V = (⟨0, 0, 0⟩, 5) from fun h h2 => by rw [hE, if_pos h, if_neg (fun h3 => h2 (hZ.1 h3))])
 have HC2 := qh (show M.2 = 0 → (qbE P Q).2 = 0 → F = none → V = (⟨0, 0, 0⟩, 4) from fun h h2 h3 => by rw [hE, if_pos h, if_pos (hZ.2 h2).1, h3])
 have HC3 := qh (show M.2 = 0 → (qbE P Q).2 = 0 → ∀ n, F = some n → qbb n qbB = false → V = (⟨0, 0, 0⟩, 5) from fun h h2 n h3 h4 => by rw [hE, if_pos h, if_pos (hZ.2 h2).1, h3]; simp only; rw [h4]; rfl)
 have HC4 := qh (show M.2 = 0 → (qbE P Q).2 = 0 → ∀ n, F = some n → qbb n qbB = true → V = (⟨P, Q, qaO (qbb n) 64 0 qbB⟩, 0) from fun h h2 n h3 h4 => by rw [hE, if_pos h, if_pos (hZ.2 h2).1, h3]; simp only; rw [h4]; rfl)
 have HFZ := qh (show (qbE P Q).2 = 0 → F = qd0 (qbE P Q).1 [⟨s.left, s.low⟩, ⟨X, s.low⟩, ⟨s.left, Y⟩, ⟨X, Y⟩] zD from fun h => by rw [hF, (hZ.2 h).2])
 clear hE hZ hF
 generalize qbE P Q = Z at *
 obtain ⟨⟨a0, a1, a2⟩, ⟨a3, a4, a5⟩, a6⟩ := s
 obtain ⟨x0, x1, x2⟩ := X
 obtain ⟨y0, y1, y2⟩ := Y
 obtain ⟨⟨⟨m0, m1, m2⟩, ⟨m3, m4, m5⟩⟩, m6⟩ := M
 obtain ⟨⟨⟨z0, z1, z2⟩, ⟨z3, z4, z5⟩⟩, z6⟩ := Z
 simp only at RT CO MID HM NEAR CPX HC0 HC1 HC2 HC3 HC4 HFZ hZo hZe hs1 hs2 ⊢
 have hm : m6 = 0 ∨ m6 = 4 := HM.imp id (fun h => (Prod.mk.inj h).2)
 have HO := qh (And.intro hs1 (And.intro hs2 (And.intro hX hY)))
 clear hs hc HM hMo hs1 hs2 hX hY hT
 go_enter func31, ntmps31
 go_upto_region 1 with fail
 obtain ⟨b, w1, hw, hb, B0, B1, K1, HB⟩ := qa7 w (LC3 a0 a1 a2 a3 a4 a5 a6) 26 [.complex .f64 0 0, .float .f64 0] 85
 rw [← hw, ← hb]; clear hw hb
 obtain ⟨c0, c1, c2, c3, c4, c5, c6⟩ := B0.out.c7
 go_upto_region 3 with (go_at_call 54; (with_reducible refine (RT.out _).mono ?_); rintro e w2 ⟨rfl, hk2⟩)
 have K2 := qh hk2
 clear hk2 c0 c1 c2 c3 c4 c5 c6 RT
 refine wp_region_list ?_
 refine wpList_plain rfl fun K hK => qai (b := b) (n := 7) _ rfl rfl (B0.out.kept K2.out) rfl underlying26 rfl (by kernel_rfl) (hK _ _ ?_)
 clear hK K
 refine wpList_plain rfl fun K hK => ?_
 go_step
 (with_reducible refine (CO.out _ (K1.out.trans' K2.out)).mono ?_); rintro e w3 ⟨rfl, hk3⟩
 refine hK _ _ ?_
 clear hK K CO
 refine wpList_plain rfl fun K hK => BigFrame.wp_move _ rfl (hK _ _ ?_)
 clear hK K
 refine wpList_plain rfl fun K hK => ?_
 go_step
 refine hK _ _ ?_
 clear hK K
 refine wpList_plain rfl fun K hK => ?_
 go_step
 refine hK _ _ ?_
 clear hK K
 refine wpList_plain rfl fun K hK => ?_
 go_step
 refine hK _ _ ?_
 clear hK K
 have HG := qh (show w1.heap.size ≤ w3.heap.size from (K2.out.trans' hk3).size)
 have K4 := qh (Kept.new (K2.out.trans' hk3) (.cells ZL1.toArray 64))
 have B2 := qh (Bx.new w3 ZL1 64 w3.heap.size rfl)
 obtain ⟨g, hg⟩ : ∃ g, g = w3.heap.size := ⟨_, rfl⟩
 rw [← hg] at B2 HG ⊢
 clear hg hk3
 generalize World.alloc w3 _ = w4 at *
 refine wpList_plain rfl fun K hK => qaa (b := g) (n := 24) _ _ rfl rfl rfl B2.out rfl rfl (by kernel_rfl) rfl (hK _ _ ?_)
 clear hK K
 replace B2 := qh (B2.out.row (LC4 a0 a1 a2 a3 a4 a5 x0 x1 x2 a3 a4 a5 a0 a1 a2 y0 y1 y2 x0 x1 x2 y0 y1 y2))
 replace K4 := qh (Kept.row K4.out HG.out (LC4 a0 a1 a2 a3 a4 a5 x0 x1 x2 a3 a4 a5 a0 a1 a2 y0 y1 y2 x0 x1 x2 y0 y1 y2))
 generalize World.setRow w4 _ _ = w5 at *
 refine wpList_plain rfl fun K hK => ?_
 go_step
 refine hK _ _ ?_
 clear hK K
 obtain ⟨c0, c1, c2, c3, c4, c5, c6⟩ := (B0.out.kept K4.out).c7
 go_upto_region 7 with (go_at_call 64; (with_reducible refine (MID.out _ (K1.out.trans' K4.out)).mono ?_); rintro e w6 ⟨rfl, hk6⟩)
 have K7 := qh (Kept.new (K4.out.trans' hk6) (.cells (LC1 m0 m1 m2 m3 m4 m5).toArray 28))
 have B3 := qh (Bx.new w6 (LC1 m0 m1 m2 m3 m4 m5) 28 w6.heap.size rfl)
 replace B2 := qh ((B2.out.kept hk6).kept (Kept.new (Below.refl _ _) (.cells (LC1 m0 m1 m2 m3 m4 m5).toArray 28)))
 obtain ⟨g2, hg⟩ : ∃ g, g = w6.heap.size := ⟨_, rfl⟩
 rw [← hg] at B3 ⊢
 clear hg hk6
 generalize (w6.alloc (.cells (LC1 m0 m1 m2 m3 m4 m5).toArray 28)) = w7 at *
 clear c0 c1 c2 c3 c4 c5 c6 MID
 rcases hm with rfl | rfl
 rotate_left
 ·have HE := qh (show V = (⟨0, 0, 0⟩, 4) from by have h9 := HC0.out; simp at h9; exact h9)
  obtain ⟨re0, re1⟩ : (World.cell? _ ⟨b + 1, 0, none⟩ = some (.complex .f64 0 0)) ∧ (World.cell? _ ⟨b + 1, 1, none⟩ = some (.float .f64 0)) := ⟨(B1.out.kept K7.out).c 0 rfl, (B1.out.kept K7.out).c 1 rfl⟩
  obtain ⟨rf0, rf1⟩ : (World.frozen? _ ⟨b + 1, 0, none⟩ = false) ∧ (World.frozen? _ ⟨b + 1, 1, none⟩ = false) := ⟨(B1.out.kept K7.out).f 0, (B1.out.kept K7.out).f 1⟩
  go_wp2_with fail
  exact bodyPost_ret (v := .tuple #[.agg #[.complex .f64 0 0, .float .f64 0], .int .i64 4]) (by simp [results, results31, go_sem, re0, re1]) rfl ⟨by rw [HE.out], ((K1.out.trans' K7.out).set (b := b + 1) (by have := HB.out; omega) 0 _).set (b := b + 1) (by have := HB.out; omega) 1 _⟩
 obtain ⟨c0, c1, c2, c3, c4, c5⟩ := B3.out.c6
 go_upto_region 10 with (go_at_call 65; (with_reducible refine (NEAR.out _).mono ?_); rintro e w8 ⟨rfl, hk8⟩)
 have K8 := qh (K7.out.trans' hk8)
 replace B2 := qh (B2.out.kept hk8)
 clear hk8 NEAR B3 c0 c1 c2 c3 c4 c5
 go_upto_region 11 with (go_at_call 66; (with_reducible refine (CPX.out _ (K1.out.trans' K8.out)).mono ?_); rintro e w9 ⟨rfl, hk9⟩)
 have K10 := qh (Kept.new (K8.out.trans' hk9) (.cells (LC1 z0 z1 z2 z3 z4 z5).toArray 28))
 have B4 := qh (Bx.new w9 (LC1 z0 z1 z2 z3 z4 z5) 28 w9.heap.size rfl)
 replace B2 := qh ((B2.out.kept hk9).kept (Kept.new (Below.refl _ _) (.cells (LC1 z0 z1 z2 z3 z4 z5).toArray 28)))
 obtain ⟨g3, hg⟩ : ∃ g, g = w9.heap.size := ⟨_, rfl⟩
 rw [← hg] at B4 ⊢
 clear hg hk9
 generalize (w9.alloc (.cells (LC1 z0 z1 z2 z3 z4 z5).toArray 28)) = w10 at *
 clear CPX
 rcases hZe with rfl | rfl
 rotate_left
 ·have HE := qh (show V = (⟨0, 0, 0⟩, 5) from by have h9 := HC1.out; simp at h9; exact h9)
  obtain ⟨re0, re1⟩ : (World.cell? _ ⟨b + 1, 0, none⟩ = some (.complex .f64 0 0)) ∧ (World.cell? _ ⟨b + 1, 1, none⟩ = some (.float .f64 0)) := ⟨(B1.out.kept K10.out).c 0 rfl, (B1.out.kept K10.out).c 1 rfl⟩
  obtain ⟨rf0, rf1⟩ : (World.frozen? _ ⟨b + 1, 0, none⟩ = false) ∧ (World.frozen? _ ⟨b + 1, 1, none⟩ = false) := ⟨(B1.out.kept K10.out).f 0, (B1.out.kept K10.out).f 1⟩
  go_wp2_with fail
  exact bodyPost_ret (v := .tuple #[.agg #[.complex .f64 0 0, .float .f64 0], .int .i64 5]) (by simp [results, results31, go_sem, re0, re1]) rfl ⟨by rw [HE.out], ((K1.out.trans' K10.out).set (b := b + 1) (by have := HB.out; omega) 0 _).set (b := b + 1) (by have := HB.out; omega) 1 _⟩
 have HF := qh (show F = qd0 ⟨⟨z0, z1, z2⟩, ⟨z3, z4, z5⟩⟩ [⟨⟨a0, a1, a2⟩, ⟨a3, a4, a5⟩⟩, ⟨⟨x0, x1, x2⟩, ⟨a3, a4, a5⟩⟩, ⟨⟨a0, a1, a2⟩, ⟨y0, y1, y2⟩⟩, ⟨⟨x0, x1, x2⟩, ⟨y0, y1, y2⟩⟩] zD from by first | exact HFZ.out | exact HFZ.out rfl)
 clear HFZ HC0 HC1
 go_upto_region 14 with fail
 have KB := qh (Kept.new (Below.refl _ w10) (.cells (LC0 false ⟨#[]⟩ 0).toArray 24))
 have B5 := qh (Bx.new w10 (LC0 false ⟨#[]⟩ 0) 24 w10.heap.size rfl)
 obtain ⟨q, hq⟩ : ∃ g, g = w10.heap.size := ⟨_, rfl⟩
 rw [← hq] at B5 ⊢
 have HQ := qh (show w1.heap.size ≤ q by have := K10.out.size; omega)
 have HGQ := qh (show g3 ≠ q by have := B4.out.lt; omega)
 clear hq
 generalize (w10.alloc (.cells (LC0 false ⟨#[]⟩ 0).toArray 24)) = w11 at *
 replace B2 := qh (B2.out.kept KB.out)
 replace B4 := qh (B4.out.kept KB.out)
 replace KB := qh (K10.out.trans' KB.out)
 clear K10
 refine wp_region_list ?_
 refine wpList_plain rfl fun K hK => qai (b := g) (n := 24) _ rfl rfl B2.out rfl underlying64 rfl (by kernel_rfl) (hK _ _ ?_)
 clear hK K
 refine wpList_plain rfl fun K hK => BigFrame.wp_move _ rfl (hK _ _ ?_)
 clear hK K
 obtain ⟨L, hL⟩ : ∃ L : List GsD, L = [⟨⟨a0, a1, a2⟩, ⟨a3, a4, a5⟩⟩, ⟨⟨x0, x1, x2⟩, ⟨a3, a4, a5⟩⟩, ⟨⟨a0, a1, a2⟩, ⟨y0, y1, y2⟩⟩, ⟨⟨x0, x1, x2⟩, ⟨y0, y1, y2⟩⟩] := ⟨_, rfl⟩
 rw [← hL] at HF
 obtain ⟨hs1, hs2, hX, hY⟩ := HO.out
 obtain ⟨AG, hAG⟩ : ∃ AG : Array Value, AG = (LC4 a0 a1 a2 a3 a4 a5 x0 x1 x2 a3 a4 a5 a0 a1 a2 y0 y1 y2 x0 x1 x2 y0 y1 y2).toArray := ⟨_, rfl⟩
 have CK : Hid (∀ k : Nat, k < 4 → ∃ G : GsD, gsB G = true ∧ L.drop k = G :: L.drop (k + 1) ∧ ∀ W, (Instr.index 64 (.agg AG) (.int .i64 (k : Int))).run prog W = .ok (.agg #[.bool G.re.neg, .string G.re.n, .int .i64 G.re.e, .bool G.im.neg, .string G.im.n, .int .i64 G.im.e]) W) := by
  intro k hk
  rw [hL, hAG]
  rcases (show k = 0 ∨ k = 1 ∨ k = 2 ∨ k = 3 by omega) with rfl | rfl | rfl | rfl
  ·exact ⟨_, qam.2 ⟨hs1, hs2⟩, rfl, fun W => by kernel_rfl⟩
  ·exact ⟨_, qam.2 ⟨hX, hs2⟩, rfl, fun W => by kernel_rfl⟩
  ·exact ⟨_, qam.2 ⟨hs1, hY⟩, rfl, fun W => by kernel_rfl⟩
  ·exact ⟨_, qam.2 ⟨hX, hY⟩, rfl, fun W => by kernel_rfl⟩
 have HL4 := qh (show L.drop 4 = [] by rw [hL]; rfl)
 clear hL hs1 hs2 hX hY HO
 have HZO := qh hZo
 clear hZo B2
 rw [← hAG]
 clear hAG
 go_wp2_with fail
 go_loopg [13, 14, 15, 16, 17, 18, 58] 4 (fun gh v13 v14 v15 v16 v17 v18 v58 wr => ∃ (k : Nat) (m : DyD), k + gh = 4 ∧ v58 = .int .i64 (k : Int) ∧ qad m = true ∧ qd0 ⟨⟨z0, z1, z2⟩, ⟨z3, z4, z5⟩⟩ (L.drop k) m = F ∧ Bx wr q (LC0 m.neg m.n m.e) ∧ Bx wr g3 (LC1 z0 z1 z2 z3 z4 z5) ∧ Kept w1 wr)
 case atStart => exact ⟨0, zD, by omega, rfl, rfl, HF.out.symm, B5.out, B4.out, KB.out⟩
 case round =>
  clear B4 B5 KB HF
  obtain ⟨k, m, hkg, rfl, hm, hF, b5, b4, hk⟩ := hrel
  have HFF := qh hF
  have HMO := qh hm
  have B5 := qh b5
  have B4 := qh b4
  have KR := qh hk
  clear hF hm b5 b4 hk
  cases gk with
  | zero =>
   obtain rfl : k = 4 := by omega
   have HFN := qh (show F = some m by rw [← HFF.out, HL4.out]; rfl)
   have ROOT : Hid (∀ W, Kept w W → Calls prog 70 #[.agg #[.bool m.neg, .string m.n, .int .i64 m.e]] W fun en w' => en = .returned (if qbb m qbB then .tuple #[.float .f64 (qaO (qbb m) 64 0 qbB), .bool true] else .tuple #[.float .f64 0, .bool false]) ∧ Kept W w') := fun W h => qnQ m W HMO.out (HT.out.kept h)
   obtain ⟨m0, m1, m2⟩ := m
   simp only at ROOT
   obtain ⟨c0, c1, c2⟩ := B5.out.c3
   cases hr : qbb ⟨m0, m1, m2⟩ qbB with
   | false =>
    have HE := qh (show V = (⟨0, 0, 0⟩, 5) from by have h9 := HC3.out; simp at h9; exact h9 _ HFN.out hr)
    rw [hr] at ROOT
    clear hr HC2 HC3 HC4 HFN HFF HMO
    go_upto_region 29 with (go_at_call 70; (with_reducible refine (ROOT.out _ (K1.out.trans' KR.out)).mono ?_); rintro e w14 ⟨rfl, hk14⟩)
    have K15 := qh (KR.out.trans' hk14)
    clear hk14 c0 c1 c2 KR
    obtain ⟨re0, re1⟩ : (World.cell? _ ⟨b + 1, 0, none⟩ = some (.complex .f64 0 0)) ∧ (World.cell? _ ⟨b + 1, 1, none⟩ = some (.float .f64 0)) := ⟨(B1.out.kept K15.out).c 0 rfl, (B1.out.kept K15.out).c 1 rfl⟩
    obtain ⟨rf0, rf1⟩ : (World.frozen? _ ⟨b + 1, 0, none⟩ = false) ∧ (World.frozen? _ ⟨b + 1, 1, none⟩ = false) := ⟨(B1.out.kept K15.out).f 0, (B1.out.kept K15.out).f 1⟩
    go_wp2_with fail
    exact bodyPost_ret (v := .tuple #[.agg #[.complex .f64 0 0, .float .f64 0], .int .i64 5]) (by simp [results, results31, go_sem, re0, re1]) rfl ⟨by rw [HE.out], ((K1.out.trans' K15.out).set (b := b + 1) (by have := HB.out; omega) 0 _).set (b := b + 1) (by have := HB.out; omega) 1 _⟩
   | true =>
    obtain ⟨rr, hrr⟩ : ∃ r, r = qaO (qbb ⟨m0, m1, m2⟩) 64 0 qbB := ⟨_, rfl⟩
    have HE := qh (show V = (⟨P, Q, rr⟩, 0) from by have h9 := HC4.out; simp at h9; rw [hrr]; exact h9 _ HFN.out hr)
    rw [hr, ← hrr] at ROOT
    clear hr hrr HC2 HC3 HC4 HFN HFF HMO
    go_upto_region 30 with (go_at_call 70; (with_reducible refine (ROOT.out _ (K1.out.trans' KR.out)).mono ?_); rintro e w14 ⟨rfl, hk14⟩)
    have K15 := qh (KR.out.trans' hk14)
    clear hk14 c0 c1 c2 KR
    obtain ⟨re0, re1⟩ : (World.cell? _ ⟨b + 1, 0, none⟩ = some (.complex .f64 0 0)) ∧ (World.cell? _ ⟨b + 1, 1, none⟩ = some (.float .f64 0)) := ⟨(B1.out.kept K15.out).c 0 rfl, (B1.out.kept K15.out).c 1 rfl⟩
    obtain ⟨rf0, rf1⟩ : (World.frozen? _ ⟨b + 1, 0, none⟩ = false) ∧ (World.frozen? _ ⟨b + 1, 1, none⟩ = false) := ⟨(B1.out.kept K15.out).f 0, (B1.out.kept K15.out).f 1⟩
    go_wp2_with fail
    exact bodyPost_ret (v := .tuple #[.agg #[.complex .f64 P Q, .float .f64 rr], .int .i64 0]) (by simp [results, results31, go_sem, re0, re1]) rfl ⟨by rw [HE.out], ((K1.out.trans' K15.out).set (b := b + 1) (by have := HB.out; omega) 0 _).set (b := b + 1) (by have := HB.out; omega) 1 _⟩
  | succ gh =>
   obtain ⟨G, hG, hdr, hcell⟩ := CK.out k (by omega)
   have SUB : Hid (∀ W, Kept w W → Calls prog 67 #[.agg #[.bool G.re.neg, .string G.re.n, .int .i64 G.re.e, .bool G.im.neg, .string G.im.n, .int .i64 G.im.e], .agg #[.bool z0, .string z1, .int .i64 z2, .bool z3, .string z4, .int .i64 z5]] W fun en w' => en = .returned (qaC (qej G ⟨⟨z0, z1, z2⟩, ⟨z3, z4, z5⟩⟩)) ∧ Kept W w') := fun W h => qnl G ⟨⟨z0, z1, z2⟩, ⟨z3, z4, z5⟩⟩ W hG HZO.out (HT.out.kept h)
   have hS1 := qiw hG HZO.out
   have HS := qgW G ⟨⟨z0, z1, z2⟩, ⟨z3, z4, z5⟩⟩
   have HFE : qd0 ⟨⟨z0, z1, z2⟩, ⟨z3, z4, z5⟩⟩ (L.drop k) m = F := HFF.out
   rw [hdr] at HFE
   unfold qd0 at HFE
   generalize qej G ⟨⟨z0, z1, z2⟩, ⟨z3, z4, z5⟩⟩ = S at *
   have NRM : Hid (∀ W, Kept w W → Calls prog 68 #[.agg #[.bool S.1.re.neg, .string S.1.re.n, .int .i64 S.1.re.e, .bool S.1.im.neg, .string S.1.im.n, .int .i64 S.1.im.e]] W fun en w' => en = .returned (qaf (qbX S.1)) ∧ Kept W w') := fun W h => qmo S.1 W hS1 (HT.out.kept h)
   have hN1 := qgY S.1
   have HN : (qbX S.1).2 = 0 ∨ qbX S.1 = (zD, 4) := qhg _ _
   generalize qbX S.1 = N at *
   have CMP := qh (fun W => qdr N.1 m W hN1 HMO.out)
   generalize qbx N.1 m = cc at *
   have HFEE := qh HFE
   have HNO := qh hN1
   obtain ⟨⟨t0, t1, t2⟩, ⟨t3, t4, t5⟩⟩ := G
   obtain ⟨⟨⟨s0, s1, s2⟩, ⟨s3, s4, s5⟩⟩, s6⟩ := S
   obtain ⟨⟨n0, n1, n2⟩, n3⟩ := N
   obtain ⟨m0, m1, m2⟩ := m
   simp only at SUB NRM CMP HFEE HNO HMO HS HN hcell
   have hs6 : s6 = 0 ∨ s6 = 4 := HS.imp id (fun h => (Prod.mk.inj h).2)
   have hn3 : n3 = 0 ∨ n3 = 4 := HN.imp id (fun h => (Prod.mk.inj h).2)
   clear HFE HS HN hS1 hN1 hdr hG HFF
   have hkI : (k : Int) < 4 := by omega
   go_upto_region 17 with fail
   have KG := qh (Kept.new KR.out (.cells (LC1 t0 t1 t2 t3 t4 t5).toArray 28))
   have BG := qh (Bx.new wr (LC1 t0 t1 t2 t3 t4 t5) 28 wr.heap.size rfl)
   replace B4 := qh (B4.out.kept (Kept.new (Below.refl _ _) (.cells (LC1 t0 t1 t2 t3 t4 t5).toArray 28)))
   replace B5 := qh (B5.out.kept (Kept.new (Below.refl _ _) (.cells (LC1 t0 t1 t2 t3 t4 t5).toArray 28)))
   obtain ⟨gg, hgg⟩ : ∃ g, g = wr.heap.size := ⟨_, rfl⟩
   rw [← hgg] at BG ⊢
   clear hgg hcell KR
   generalize (World.alloc wr (.cells (LC1 t0 t1 t2 t3 t4 t5).toArray 28)) = w12 at *
   obtain ⟨c0, c1, c2, c3, c4, c5⟩ := BG.out.c6
   obtain ⟨d0, d1, d2, d3, d4, d5⟩ := B4.out.c6
   go_upto_region 18 with (go_at_call 67; (with_reducible refine (SUB.out _ (K1.out.trans' KG.out)).mono ?_); rintro e w13 ⟨rfl, hk13⟩)
   have K14 := qh (Kept.new (KG.out.trans' hk13) (.cells (LC1 s0 s1 s2 s3 s4 s5).toArray 28))
   have BS := qh (Bx.new w13 (LC1 s0 s1 s2 s3 s4 s5) 28 w13.heap.size rfl)
   replace B4 := qh ((B4.out.kept hk13).kept (Kept.new (Below.refl _ _) (.cells (LC1 s0 s1 s2 s3 s4 s5).toArray 28)))
   replace B5 := qh ((B5.out.kept hk13).kept (Kept.new (Below.refl _ _) (.cells (LC1 s0 s1 s2 s3 s4 s5).toArray 28)))
   obtain ⟨gs, hg⟩ : ∃ g, g = w13.heap.size := ⟨_, rfl⟩
   rw [← hg] at BS ⊢
   clear hg hk13
   generalize (w13.alloc (.cells (LC1 s0 s1 s2 s3 s4 s5).toArray 28)) = w14 at *
   clear c0 c1 c2 c3 c4 c5 d0 d1 d2 d3 d4 d5 SUB BG KG
   rcases hs6 with rfl | rfl
   rotate_left
   ·have HE := qh (show V = (⟨0, 0, 0⟩, 4) from by
     have h8 := HFEE.out
     rw [if_neg (fun h => absurd h.1 (by decide))] at h8
     have h9 := HC2.out; simp at h9; exact h9 h8.symm)
    obtain ⟨re0, re1⟩ : (World.cell? _ ⟨b + 1, 0, none⟩ = some (.complex .f64 0 0)) ∧ (World.cell? _ ⟨b + 1, 1, none⟩ = some (.float .f64 0)) := ⟨(B1.out.kept K14.out).c 0 rfl, (B1.out.kept K14.out).c 1 rfl⟩
    obtain ⟨rf0, rf1⟩ : (World.frozen? _ ⟨b + 1, 0, none⟩ = false) ∧ (World.frozen? _ ⟨b + 1, 1, none⟩ = false) := ⟨(B1.out.kept K14.out).f 0, (B1.out.kept K14.out).f 1⟩
    go_wp2_with fail
    exact bodyPost_ret (v := .tuple #[.agg #[.complex .f64 0 0, .float .f64 0], .int .i64 4]) (by simp [results, results31, go_sem, re0, re1]) rfl ⟨by rw [HE.out], ((K1.out.trans' K14.out).set (b := b + 1) (by have := HB.out; omega) 0 _).set (b := b + 1) (by have := HB.out; omega) 1 _⟩
   obtain ⟨c0, c1, c2, c3, c4, c5⟩ := BS.out.c6
   go_upto_region 21 with (go_at_call 68; (with_reducible refine (NRM.out _ (K1.out.trans' K14.out)).mono ?_); rintro e w15 ⟨rfl, hk15⟩)
   have K16 := qh (Kept.new (K14.out.trans' hk15) (.cells (LC0 n0 n1 n2).toArray 24))
   have BN := qh (Bx.new w15 (LC0 n0 n1 n2) 24 w15.heap.size rfl)
   replace B4 := qh ((B4.out.kept hk15).kept (Kept.new (Below.refl _ _) (.cells (LC0 n0 n1 n2).toArray 24)))
   replace B5 := qh ((B5.out.kept hk15).kept (Kept.new (Below.refl _ _) (.cells (LC0 n0 n1 n2).toArray 24)))
   obtain ⟨gn, hg⟩ : ∃ g, g = w15.heap.size := ⟨_, rfl⟩
   rw [← hg] at BN ⊢
   clear hg hk15
   generalize (w15.alloc (.cells (LC0 n0 n1 n2).toArray 24)) = w16 at *
   clear c0 c1 c2 c3 c4 c5 NRM BS
   rcases hn3 with rfl | rfl
   rotate_left
   ·have HE := qh (show V = (⟨0, 0, 0⟩, 4) from by
     have h8 := HFEE.out
     rw [if_neg (fun h => absurd h.2 (by decide))] at h8
     have h9 := HC2.out; simp at h9; exact h9 h8.symm)
    obtain ⟨re0, re1⟩ : (World.cell? _ ⟨b + 1, 0, none⟩ = some (.complex .f64 0 0)) ∧ (World.cell? _ ⟨b + 1, 1, none⟩ = some (.float .f64 0)) := ⟨(B1.out.kept K16.out).c 0 rfl, (B1.out.kept K16.out).c 1 rfl⟩
    obtain ⟨rf0, rf1⟩ : (World.frozen? _ ⟨b + 1, 0, none⟩ = false) ∧ (World.frozen? _ ⟨b + 1, 1, none⟩ = false) := ⟨(B1.out.kept K16.out).f 0, (B1.out.kept K16.out).f 1⟩
    go_wp2_with fail
    exact bodyPost_ret (v := .tuple #[.agg #[.complex .f64 0 0, .float .f64 0], .int .i64 4]) (by simp [results, results31, go_sem, re0, re1]) rfl ⟨by rw [HE.out], ((K1.out.trans' K16.out).set (b := b + 1) (by have := HB.out; omega) 0 _).set (b := b + 1) (by have := HB.out; omega) 1 _⟩
   obtain ⟨c0, c1, c2⟩ := B5.out.c3
   obtain ⟨d0, d1, d2⟩ := BN.out.c3
   have HF2 := qh (show qd0 ⟨⟨z0, z1, z2⟩, ⟨z3, z4, z5⟩⟩ (L.drop (k + 1)) (if 0 < cc then ⟨n0, n1, n2⟩ else ⟨m0, m1, m2⟩) = F from by have h8 := HFEE.out; rw [if_pos (by simp)] at h8; exact h8)
   clear HFEE
   by_cases hcc : 0 < cc
   ·have HF3 := qh (show qd0 ⟨⟨z0, z1, z2⟩, ⟨z3, z4, z5⟩⟩ (L.drop (k + 1)) ⟨n0, n1, n2⟩ = F from by have h8 := HF2.out; rw [if_pos (by omega)] at h8; exact h8)
    clear HF2
    go_upto_region 25 with (go_at_call 69; (with_reducible refine (CMP.out _).mono ?_); rintro e w17 ⟨rfl, hk17⟩)
    replace B4 := qh (B4.out.kept hk17)
    replace B5 := qh (B5.out.kept hk17)
    replace BN := qh (BN.out.kept hk17)
    replace K16 := qh (K16.out.trans' hk17)
    clear c0 c1 c2 d0 d1 d2 hk17
    obtain ⟨c0, c1, c2⟩ := B5.out.c3
    obtain ⟨f0, f1, f2⟩ := B5.out.f3
    obtain ⟨d0, d1, d2⟩ := BN.out.c3
    go_wp2_with fail
    go_roundg gh
    case measure => omega
    case rel =>
     exact ⟨k + 1, ⟨n0, n1, n2⟩, by omega, by go_num, HNO.out, HF3.out, ((B5.out.set 0 _ (by simp)).set 1 _ (by simp)).set 2 _ (by simp), ((B4.out.far ⟨q, 0, none⟩ HGQ.out _).far ⟨q, 1, none⟩ HGQ.out _).far ⟨q, 2, none⟩ HGQ.out _, K16.out.qaL HQ.out _ _ _⟩
   ·have HF3 := qh (show qd0 ⟨⟨z0, z1, z2⟩, ⟨z3, z4, z5⟩⟩ (L.drop (k + 1)) ⟨m0, m1, m2⟩ = F from by have h8 := HF2.out; rw [if_neg (by omega)] at h8; exact h8)
    clear HF2
    go_wp2_with (go_at_call 69; (with_reducible refine (CMP.out _).mono ?_); rintro e w17 ⟨rfl, hk17⟩; replace B4 := qh (B4.out.kept hk17); replace B5 := qh (B5.out.kept hk17); replace K16 := qh (K16.out.trans' hk17); clear hk17)
    go_roundg gh
    case measure => omega
    case rel =>
     exact ⟨k + 1, ⟨m0, m1, m2⟩, by omega, by go_num, HMO.out, HF3.out, B5.out, B4.out, K16.out⟩
theorem qhI (s : SqD) (w : World) (hs : sqB s = true) (hT : T32 w) :
  Calls prog 31 #[.agg #[.bool s.left.neg, .string s.left.n, .int .i64 s.left.e, .bool s.low.neg, .string s.low.n, .int .i64 s.low.e, .int .i64 s.e]] w fun en w' => en = .returned (qh7 (qaj s)) ∧ Kept w w' := by
 by_cases h : (qaN s).2 = 0 ∧ (qaZ s).2 = 0
 ·exact qkd s (qaN s).1 (qaZ s).1 w hs hT (qce _ _ (qas.1 hs).1) (qce _ _ (qas.1 hs).2.1) (by unfold qaA; rw [if_pos h])
 ·exact qkv s w hs hT (by unfold qaA; rw [if_neg h])
end
section
structure Far (s : Nat → Prop) (w w' : World) : Prop where
 os : w'.os = w.os
 tape : w'.tape = w.tape
 output : w'.output = w.output
 size : w.heap.size ≤ w'.heap.size
 block : ∀ k, k < w.heap.size → ¬ s k → w'.heap[k]? = w.heap[k]?
theorem Far.refl (s : Nat → Prop) (w : World) : Far s w w := ⟨rfl, rfl, rfl, Nat.le_refl _, fun _ _ _ => rfl⟩
theorem Far.trans {s t : Nat → Prop} {a b c : World} (h : Far s a b) (k : Far t b c) (ht : ∀ i, i < a.heap.size → t i → s i) : Far s a c :=
 ⟨k.os.trans h.os, k.tape.trans h.tape, k.output.trans h.output, Nat.le_trans h.size k.size, fun i hi hs => (k.block i (Nat.lt_of_lt_of_le hi h.size) (fun e => hs (ht i hi e))).trans (h.block i hi hs)⟩
theorem Far.qcE {s : Nat → Prop} {a b : World} (h : Kept a b) : Far s a b := ⟨h.os, h.tape, h.output, h.size, fun i hi _ => h.block i hi⟩
theorem Far.then {s : Nat → Prop} {a b c : World} (h : Far s a b) (k : Kept b c) : Far s a c := h.trans (Far.qcE (s := fun _ => False) k) (fun _ _ e => e.elim)
theorem Far.qjy {s : Nat → Prop} {a b : World} {row : Option Nat} (h : a.grownBy b row) (hr : ∀ k, row = some k → s k) : Far s a b :=
 ⟨h.os, h.tape, h.output, h.size, fun i hi hs => h.block i hi (fun e => hs (hr i e.symm))⟩
theorem Bx.to {s : Nat → Prop} {w w' : World} {b : Nat} {vs : List Value} (h : Bx w b vs) (hf : Far s w w') (hs : ¬ s b) : Bx w' b vs := by
 have hl := h.lt
 obtain ⟨t, h⟩ := h
 exact ⟨t, (hf.block b hl hs).trans h⟩
theorem Own.to {s : Nat → Prop} {w w' : World} {base size n : Nat} {v : Value} {xs : List Value} (h : Own w base size v n xs) (hf : Far s w w') (hs : ∀ k, v.ownBlock = some k → ¬ s k) : Own w' base size v n xs :=
 h.keep hf.size fun g hg o => by
  have hb := hf.block g (h.lt g hg).2 (hs g hg)
  exact ⟨World.cell?_of_block (a := ⟨g, o, none⟩) hb, World.frozen?_of_block (a := ⟨g, o, none⟩) hb⟩
theorem T32.to {s : Nat → Prop} {w w' : World} (h : T32 w) (hf : Far s w w') (hs : ¬ s 1) : T32 w' := fun k hk => by
 have hl := lt_of_cell (h 0 (by omega))
 have hb := hf.block _ hl hs
 rw [World.cell?_of_block (a := ⟨1, k, none⟩) hb]
 exact h k hk
def NdD.kid (n : NdD) : Nat × Nat × Nat × Nat := n.kids.getD (0, 0, 0, 0)
def ndV (n : NdD) : List Value := [.bool n.sq.left.neg, .string n.sq.left.n, .int .i64 n.sq.left.e, .bool n.sq.low.neg, .string n.sq.low.n, .int .i64 n.sq.low.e, .int .i64 n.sq.e, .int .u8 (n.told : Int), .int .i64 (n.depth : Int), .int .i64 (n.kid.1 : Int), .int .i64 (n.kid.2.1 : Int), .int .i64 (n.kid.2.2.1 : Int), .int .i64 (n.kid.2.2.2 : Int)]
def qc7 : List NdD → List Value
 | [] => []
 | n :: l => ndV n ++ qc7 l
theorem qbl (n : NdD) : (ndV n).length = 13 := rfl
theorem qf4 : ∀ l m : List NdD, qc7 (l ++ m) = qc7 l ++ qc7 m
 | [], m => rfl
 | n :: l, m => by simp only [List.cons_append, qc7, qf4 l m, List.append_assoc]
theorem qg9 : ∀ (l : List NdD) (k : Nat) (n : NdD) (i : Nat), l[k]? = some n → i < 13 → (qc7 l)[k * 13 + i]? = (ndV n)[i]?
 | [], k, n, i, h, _ => by simp at h
 | x :: l, 0, n, i, h, hi => by
  have : x = n := by simpa using h
  subst this
  simp only [qc7, Nat.zero_mul, Nat.zero_add]
  rw [List.getElem?_append_left (by rw [qbl]; exact hi)]
 | x :: l, k + 1, n, i, h, hi => by
  have e : (k + 1) * 13 + i = 13 + (k * 13 + i) := by omega
  simp only [qc7]
  rw [e, List.getElem?_append_right (by rw [qbl]; omega), qbl, Nat.add_sub_cancel_left]
  exact qg9 l k n i (by simpa using h) hi
theorem qiZ (n : NdD) : qc7 [n] = ndV n := by simp [qc7]
theorem qfw (l : List NdD) : ∀ u ∈ qc7 l, u.oneCell' = true := by
 induction l with
 | nil => intro u h; cases h
 | cons n l ih =>
  intro u h
  rcases List.mem_append.1 h with h | h
  ·simp only [ndV, List.mem_cons, List.not_mem_nil, or_false] at h
   rcases h with rfl | rfl | rfl | rfl | rfl | rfl | rfl | rfl | rfl | rfl | rfl | rfl | rfl <;> rfl
  ·exact ih u h
theorem qhF : ∀ (l : List NdD) (k : Nat) (n : NdD) (p q r s : Nat), l[k]? = some n →
  ((((qc7 l).set (k * 13 + 9) (.int .i64 (p : Int))).set (k * 13 + 10) (.int .i64 (q : Int))).set (k * 13 + 11) (.int .i64 (r : Int))).set (k * 13 + 12) (.int .i64 (s : Int)) = qc7 (l.set k { n with kids := some (p, q, r, s) })
 | [], k, n, p, q, r, s, h => by simp at h
 | x :: l, 0, n, p, q, r, s, h => by
  have : x = n := by simpa using h
  subst this
  simp [qc7, ndV, NdD.kid]
 | x :: l, k + 1, n, p, q, r, s, h => by
  have e : ∀ i, (k + 1) * 13 + i = 13 + (k * 13 + i) := fun i => by omega
  simp only [qc7, List.set_cons_succ]
  rw [e, e, e, e, List.set_append_right _ _ (by rw [qbl]; omega), qbl, List.set_append_right _ _ (by rw [qbl]; omega), qbl, List.set_append_right _ _ (by rw [qbl]; omega), qbl, List.set_append_right _ _ (by rw [qbl]; omega), qbl]
  simp only [Nat.add_sub_cancel_left]
  rw [qhF l k n p q r s (by simpa using h)]
structure NdD.ok (n : NdD) : Prop where
 sq : sqB n.sq = true
 told : n.told ≤ 2
 depth : n.depth ≤ 40
structure GoodS (S : StD) : Prop where
 nd : ∀ (k : Nat) (n : NdD), S.L[k]? = some n → n.ok
 kids : qcy S.L
 count : 4 * S.n = 3 * S.L.length + 1
 few : S.n ≤ 65536
 pos : 0 < S.L.length
theorem GoodS.len {S : StD} (h : GoodS S) : S.L.length ≤ 87381 := by have := h.count; have := h.few; omega
theorem GoodS.part {S : StD} (h : GoodS S) {k : Nat} {n : NdD} {q : SqD × SqD × SqD × SqD} (hs : qal S k = some (n, q)) (hq : sqB q.1 = true ∧ sqB q.2.1 = true ∧ sqB q.2.2.1 = true ∧ sqB q.2.2.2 = true) (t : SqD → Nat) (ht : ∀ s, t s ≤ 2) : GoodS ⟨qak S.L k n q t, S.n + 3⟩ := by
 obtain ⟨h1, h2, h3, h4, h5, h6⟩ := qa5 hs
 have hl := (List.getElem?_eq_some_iff.1 h1).1
 have hn := h.nd k n h1
 refine ⟨fun j m hj => ?_, h.kids.grown h1 q t, ?_, by show S.n + 3 ≤ 65536; omega, ?_⟩
 ·rcases qff hl hj with ⟨rfl, rfl⟩ | ⟨j1, j2, j3⟩ | ⟨j1, j2, j3, s, j4, j5, j6⟩
  ·exact ⟨hn.sq, hn.told, hn.depth⟩
  ·exact h.nd j m j3
  ·refine ⟨?_, ?_, ?_⟩
   ·rw [j5]; rcases j4 with rfl | rfl | rfl | rfl
    ·exact hq.1
    ·exact hq.2.1
    ·exact hq.2.2.1
    ·exact hq.2.2.2
   ·rw [j6]; exact ht s
   ·have := hn.depth; omega
 ·show 4 * (S.n + 3) = 3 * (qak S.L k n q t).length + 1
  rw [qat]; have := h.count; omega
 ·show 0 < (qak S.L k n q t).length
  rw [qat]; omega
structure TrM (W : World) (base p : Nat) (v : Value) (u : RuD) (S : StD) : Prop where
 box : Bx W p [.iface 31 (.agg (ruL u).toArray), v, .int .i64 (S.n : Int)]
 own : Own W base 13 v S.L.length (qc7 S.L)
 ge : base ≤ p
 off : ∀ k, v.ownBlock = some k → k ≠ p
def TrB (p : Nat) (v : Value) (k : Nat) : Prop := k = p ∨ v.ownBlock = some k
section
variable {W W' : World} {base p : Nat} {v : Value} {u : RuD} {S : StD}
theorem TrM.kept (h : TrM W base p v u S) (hk : Kept W W') : TrM W' base p v u S := ⟨h.box.kept hk, h.own.kept hk, h.ge, h.off⟩
theorem TrM.to {s : Nat → Prop} (h : TrM W base p v u S) (hf : Far s W W') (hs : ∀ k, TrB p v k → ¬ s k) : TrM W' base p v u S :=
 ⟨h.box.to hf (hs p (.inl rfl)), h.own.to hf (fun k hk => hs k (.inr hk)), h.ge, h.off⟩
theorem TrM.form (h : TrM W base p v u S) (hp : 0 < S.L.length) : ∃ g off c, v = .slice (some ⟨g, off, none⟩) S.L.length c ∧ base ≤ g ∧ g < W.heap.size ∧ g ≠ p ∧ (∀ (k : Nat) (n : NdD) (i : Nat) (x : Value), S.L[k]? = some n → (ndV n)[i]? = some x → W.cell? ⟨g, off + (k * 13 + i), none⟩ = some x) ∧ (∀ k i, k < S.L.length → i < 13 → W.frozen? ⟨g, off + (k * 13 + i), none⟩ = false) := by
 rcases h.own.2 with ⟨_, h0⟩ | ⟨g, off, cap, hv, hb, hg, hnc, hcm, hx, hc⟩
 ·omega
 ·refine ⟨g, off, cap, hv, hb, hg, h.off g (by rw [hv]; rfl), fun k n i x hk hi => ?_, fun k i hk hi => ?_⟩
  ·have h13 : i < 13 := (List.getElem?_eq_some_iff.1 hi).1
   exact hx _ _ ((qg9 S.L k n i hk h13).trans hi)
  ·have : S.L.length * 13 ≤ cap * 13 := Nat.mul_le_mul_right _ hnc
   exact (hc _ (by omega)).2
end
end
section
set_option maxRecDepth 100000
theorem qb7 {w : World} {base p : Nat} {v : Value} {u : RuD} {S : StD} (h : TrM w base p v u S) (hS : GoodS S) : Calls prog 35 #[.pointer (some ⟨p, 0, none⟩)] w fun en w' => en = .returned (.bool false) ∧ w' = w := by
 obtain ⟨g, off, c, rfl, -⟩ := h.form hS.pos
 have c1 := h.box.c 1 rfl
 have hl : (((S.L.length : Nat) : Int) == 0) = false := beq_eq_false_iff_ne.2 (by have := hS.pos; omega)
 generalize S.L.length = n at *
 clear h hS
 go_enter func35, ntmps35
 go_wp2_with fail
 go_ret
 exact ⟨rfl, rfl⟩
theorem eq4 (k0 k1 k2 k3 : Int) (W : World) : (Op.equalIn 10000 89 (.agg #[.int .i64 k0, .int .i64 k1, .int .i64 k2, .int .i64 k3]) (.agg #[.int .i64 0, .int .i64 0, .int .i64 0, .int .i64 0])).run prog W = .ok (k0 == 0 && (k1 == 0 && (k2 == 0 && k3 == 0))) W := by
 obtain ⟨i, hi, -, -, -⟩ := info_parts (show (prog.info? 3).map (fun i => (i.zero, i.size, i.bytes)) = some (some (.int .i64 0), 1, 8) by kernel_rfl)
 have hc : prog.cellsOf 3 = 1 := by kernel_rfl
 have hp : prog.plainKey 3 = true := by kernel_rfl
 have p := fun (off : Nat) (v : Value) (h : (#[.int .i64 k0, .int .i64 k1, .int .i64 k2, .int .i64 k3] : Array Value)[off]? = some v) => run_part_plain (P := prog) (w := W) hp (off := off) h
 have q := fun (off : Nat) (v : Value) (h : (#[.int .i64 0, .int .i64 0, .int .i64 0, .int .i64 0] : Array Value)[off]? = some v) => run_part_plain (P := prog) (w := W) hp (off := off) h
 have p0 := p 0 (.int .i64 k0) rfl
 have p1 := p 1 (.int .i64 k1) rfl
 have p2 := p 2 (.int .i64 k2) rfl
 have p3 := p 3 (.int .i64 k3) rfl
 have q0 := q 0 (.int .i64 0) rfl
 have q1 := q 1 (.int .i64 0) rfl
 have q2 := q 2 (.int .i64 0) rfl
 have q3 := q 3 (.int .i64 0) rfl
 have e : ∀ a b : Int, (Op.equalIn 9999 3 (.int .i64 a) (.int .i64 b)).run prog W = .ok (a == b) W := fun a b => run_equalIn_int (P := prog) W 9998 3 .i64 .i64 a b underlying3
 rw [show (10000 : Nat) = 9999 + 1 from rfl, run_equalIn_array W 9999 _ _ underlying89 hi, hc, show List.range 4 = [0, 1, 2, 3] from rfl]
 cases h0 : k0 == 0 with
 | false => simp [Op.eqItems, p0, q0, e, h0]
 | true =>
  cases h1 : k1 == 0 with
  | false => simp [Op.eqItems, p0, p1, q0, q1, e, h0, h1]
  | true =>
   cases h2 : k2 == 0 with
   | false => simp [Op.eqItems, p0, p1, p2, q0, q1, q2, e, h0, h1, h2]
   | true =>
    cases h3 : k3 == 0 <;> simp [Op.eqItems, p0, p1, p2, p3, q0, q1, q2, q3, e, h0, h1, h2, h3]
attribute [local go_sem] eq4
def qbO (n : NdD) : Bool := decide (¬ (n.kid = (0, 0, 0, 0)))
set_option maxHeartbeats 3200000 in
theorem qco (n : NdD) (w : World) : Calls prog 36 #[.agg (ndV n).toArray] w fun en w' => en = .returned (.bool (qbO n)) ∧ Kept w w' := by
 obtain ⟨V, hV⟩ : ∃ V, V = qbO n := ⟨_, rfl⟩
 rw [← hV]
 unfold qbO at hV
 unfold ndV
 generalize n.kid = K at *
 obtain ⟨k0, k1, k2, k3⟩ := K
 obtain ⟨⟨⟨a0, a1, a2⟩, ⟨a3, a4, a5⟩, a6⟩, t, d, ks⟩ := n
 simp only at hV ⊢
 have HV := qh hV
 clear hV
 go_enter func36, ntmps36
 go_upto_region 1 with fail
 obtain ⟨b, w1, hw, hb, B0, K1, HB⟩ := qa4 w [.bool a0, .string a1, .int .i64 a2, .bool a3, .string a4, .int .i64 a5, .int .i64 a6, .int .u8 t, .int .i64 d, .int .i64 k0, .int .i64 k1, .int .i64 k2, .int .i64 k3] 91
 rw [← hw, ← hb]; clear hw hb
 have c0 := B0.out.c 9 rfl
 have c1 := B0.out.c 10 rfl
 have c2 := B0.out.c 11 rfl
 have c3 := B0.out.c 12 rfl
 go_wp2_with fail
 have hb : (!(((k0 : Int) == 0) && (((k1 : Int) == 0) && (((k2 : Int) == 0) && ((k3 : Int) == 0))))) = V := by
  rw [HV.out, Bool.eq_iff_iff]; simp
 exact bodyPost_ret (v := .bool V) (by simp [results, results36, go_sem]; rw [← hb]; simp) rfl ⟨rfl, K1.out⟩
end
theorem qav {P : Program} {o : Oper} {a : Act} {W : World} {K : Act → World → Prop} {Q : Exit → Act → World → Prop} {g off n : Nat} {T : TypeId} {d : TypeDesc} {vs : List Value} (x : Operand) (ho : o.op = .load T x) (hx : a.eval x = .pointer (some ⟨g, off, none⟩)) (hc : ∀ i y, vs[i]? = some y → W.cell? ⟨g, off + i, none⟩ = some y) (hn : vs.length = n) (hu : P.underlying T = some d) (hd : (match d with | .struct _ | .array _ _ => true | _ => false) = true) (hi : (P.info? T).map (·.size) = some n)
  (h : K (a.put o.dst (.agg vs.toArray)) W) : o.wp P a W K Q := by
 have hl : (loadCells ⟨g, off, none⟩ vs.length).run P W = .ok vs.toArray W :=
  run_loadCells_list (P := P) W ⟨g, off, none⟩ vs (fun j v hv => by rw [qcV]; exact hc j v hv)
 have hload : (loadVar T ⟨g, off, none⟩).run P W = .ok (.agg vs.toArray) W := by
  cases hq : P.info? T with
  | none => simp [hq] at hi
  | some i =>
   have hs : i.size = n := by simpa [hq] using hi
   have hagg : (isAgg T).run P W = .ok true W := by
    unfold isAgg
    rw [Sem.run_bind, run_underlying hu W]
    cases d <;> simp_all
   rw [hn] at hl
   simp [loadVar, Sem.run_bind, hagg, sizeOf, typeInfo, hq, hs, hl]
 unfold Oper.wp execOp
 simp only [ho, hx, Instr.loadAt, Instr.sureAddr, Sem.run_bind, Sem.run_pure, Result.andThen_ok, hload]
 exact h
theorem Bx.at_ {W : World} {b : Nat} {vs : List Value} (h : Bx W b vs) (off n : Nat) : ∀ i y, ((vs.drop off).take n)[i]? = some y → W.cell? ⟨b, off + i, none⟩ = some y := by
 intro i y hy
 rw [List.getElem?_take] at hy
 split at hy
 ·rw [List.getElem?_drop] at hy
  exact h.c _ hy
 ·cases hy
theorem qbC {P : Program} {ops : Array Oper} {o : Oper} {a : Act} {w : World} {K : Act → World → Prop} {Q : Exit → Act → World → Prop} {E : Prop} (hg : o.guard = none) (h : Oper.wp P o a w K Q) : if Region.wanted o (yielded ops a.tmps) = true then Oper.wp P o a w K Q else E := by
 rw [if_pos (by simp [Region.wanted, hg])]
 exact h
theorem qd4 {P : Program} {fn : Func} {W : World} {tm : Array Value} {t s u b g n m : Nat} {T S : TypeId} {vs us : List Value} {x : Value} {Q : Ending → World → Prop} {d e : TypeDesc} (hr : fn.results = #[.cell t T, .cell s S, .tmp u])
  (hu : P.underlying T = some d) (hd : (match d with | .struct _ | .array _ _ => true | _ => false) = true) (hi : (P.info? T).map (·.size) = some n)
  (hv : P.underlying S = some e) (he : (match e with | .struct _ | .array _ _ => true | _ => false) = true) (hj : (P.info? S).map (·.size) = some m)
  (h2 : tm.getD t undef = .pointer (some ⟨b, 0, none⟩)) (h4 : tm.getD s undef = .pointer (some ⟨g, 0, none⟩)) (h3 : tm.getD u undef = x) (hb : Bx W b vs) (hn : vs.length = n) (hg : Bx W g us) (hm : us.length = m)
  (hq : Q (.returned (.tuple #[.agg vs.toArray, .agg us.toArray, x])) W) : bodyPost P fn Q Exit.ret { tmps := tm, defers := [] } W := by
 refine bodyPost_ret (v := .tuple #[.agg vs.toArray, .agg us.toArray, x]) ?_ rfl hq
 rw [Array.getD_eq_getD_getElem?] at h2 h3 h4
 unfold results
 rw [hr]
 simp only [Sem.run_bind]
 simp [Array.mapM_eq_mapM_toList, h2, h3, h4, qer hb hn hu hd hi, qer hg hm hv he hj, asAddr]
theorem qaw {P : Program} {o : Oper} {a : Act} {W : World} {b n : Nat} {T : TypeId} {d : TypeDesc} {vs : List Value} (x : Operand) (ho : o.op = .load T x) (hx : a.eval x = .pointer (some ⟨b, 0, none⟩)) (hb : Bx W b vs) (hn : vs.length = n) (hu : P.underlying T = some d) (hd : (match d with | .struct _ | .array _ _ => true | _ => false) = true) (hi : (P.info? T).map (·.size) = some n) :
  (execOp a.eval o).run P W = .ok (.value (.agg vs.toArray)) W := by
 unfold execOp
 simp only [ho, hx, Instr.loadAt, Instr.sureAddr, Sem.run_bind, Sem.run_pure, Result.andThen_ok, qer hb hn hu hd hi]
theorem Kept.rows {w W : World} {b g : Nat} (h : Kept w W) (hb : w.heap.size ≤ b) (hg : w.heap.size ≤ g) (vs us : List Value) : Kept w ((W.setRow b vs.toArray).setRow g us.toArray) := (h.row hb vs).row hg us
section
section
variable {P : Program} {ops : Array Oper} {Q : Exit → Act → World → Prop} {md : Region.Mode} {S : World → Prop} {fr : List Nat}
theorem yS (i t : Nat) {oi : Oper} {v : Value} {fuel : Nat} {listed : Array Bool} {a : Act} {w : World} (hy : ∀ w, S w → (execOp a.eval oi).run P w = .ok (.value v) w) (h : wpAnyS P md ops Q S fr fuel (listed.setIfInBounds i true) (a.put (some t) v) w)
  (hi : ops[i]? = some oi := by rfl) (hd : oi.dst = some t := by rfl) (hs : Region.noSelect ops = true := by kernel_rfl) (hf : Region.free md ops listed i = true := by kernel_rfl) (hr : (Region.ready md ops listed).contains i = true := by kernel_rfl) (hl : okU md ops listed fr i (behind md ops i) = true := by kernel_rfl)
  (hw : Region.wanted oi (yielded ops a.tmps) = true := by rfl)
  (hQ : ∀ c a w, Q (.panic c) (a.put (some t) v) w → Q (.panic c) a w := by exact fun _ _ _ h => h) (hS : S w := by assumption) : wpAnyS P md ops Q S fr (fuel + 1) listed a w :=
 qgf (some t) hi hd hs hf hr hl hQ (Or.inl ⟨hw, hy⟩) hS h
end
end
theorem qbw {S : StD} (hS : GoodS S) {k : Nat} {n : NdD} (hk : S.L[k]? = some n) : qbO n = n.kids.isSome := by
 unfold qbO NdD.kid
 cases h : n.kids with
 | none => rfl
 | some x =>
  obtain ⟨p, q, r, s⟩ := x
  have := hS.kids k n p q r s hk h
  simp; omega
abbrev qk1 (s : SqD) : List Value := [.complex .f64 (qaj s).1.re (qaj s).1.im, .float .f64 (qaj s).1.r]
def sq4 (q : SqD × SqD × SqD × SqD) : List Value := [q.1, q.2.1, q.2.2.1, q.2.2.2].flatMap qb6
def cv4 (q : SqD × SqD × SqD × SqD) : List Value := [q.1, q.2.1, q.2.2.1, q.2.2.2].flatMap qk1
def qd1 (o : Option (NdD × (SqD × SqD × SqD × SqD))) (v : Value) : Prop := match o with
 | none => ∃ xs ys : List Value, xs.length = 28 ∧ ys.length = 8 ∧ xs.all Value.oneCell' = true ∧ ys.all Value.oneCell' = true ∧ v = .tuple #[.agg xs.toArray, .agg ys.toArray, .bool false]
 | some (_, q) => v = .tuple #[.agg (sq4 q).toArray, .agg (cv4 q).toArray, .bool true]
set_option maxRecDepth 100000 in
set_option maxHeartbeats 6400000 in
theorem qjR {w : World} {base p : Nat} {v : Value} {u : RuD} {S : StD} {k : Nat} {n : NdD} (hM : TrM w base p v u S) (hS : GoodS S) (hk : S.L[k]? = some n) (h0 : ¬ (n.kids = none ∧ n.told = 0 ∧ n.depth < 40 ∧ S.n + 3 ≤ 65536)) :
  Calls prog 72 #[.pointer (some ⟨p, 0, none⟩), .int .i64 (k : Int)] w fun en w' => ∃ x, en = .returned x ∧ qd1 none x ∧ Kept w w' := by
 obtain ⟨g, off, c, rfl, hbg, hgl, hgp, hcell, -⟩ := hM.form hS.pos
 have hlt : (k : Int) < ((S.L.length : Nat) : Int) := by have := (List.getElem?_eq_some_iff.1 hk).1; omega
 have h0k : (0 : Int) ≤ (k : Int) := by omega
 have hnd := hcell k n
 have bp := hM.box
 generalize S.L.length = N at *
 have PT := qh (fun W => qco n W)
 have hcase : qbO n = true ∨ (qbO n = false ∧ ((n.told ≠ 0) ∨ (n.told = 0 ∧ (40 ≤ n.depth ∨ (n.depth < 40 ∧ 65536 < S.n + 3))))) := by
  rw [qbw hS hk]
  cases hkk : n.kids with
  | some x => exact .inl rfl
  | none => exact .inr ⟨rfl, by rw [hkk] at h0; simp at h0; omega⟩
 have hSn := hS.few
 have hn := hS.nd k n hk
 have hn2 := hn.told
 have hn3 := hn.depth
 clear hn h0
 generalize qbO n = pb at *
 generalize S.n = sn at *
 have ew : IntKind.i64.wrap ((sn : Int) + 3) = (sn : Int) + 3 := IntWalk.i64_in _ (by omega)
 obtain ⟨⟨⟨a0, a1, a2⟩, ⟨a3, a4, a5⟩, a6⟩, t, d, ks⟩ := n
 have HC : Hid (∀ i y, (ndV ⟨⟨⟨a0, a1, a2⟩, ⟨a3, a4, a5⟩, a6⟩, t, d, ks⟩)[i]? = some y → w.cell? ⟨g, off + k * 13 + i, none⟩ = some y) := fun i y hy => by rw [Nat.add_assoc]; exact hnd i y hk hy
 unfold ndV at HC PT
 generalize NdD.kid ⟨⟨⟨a0, a1, a2⟩, ⟨a3, a4, a5⟩, a6⟩, t, d, ks⟩ = KK at *
 obtain ⟨k0, k1, k2, k3⟩ := KK
 simp only at PT HC ⊢
 have BP := qh bp
 have HPL := qh (show p < w.heap.size from bp.lt)
 clear hM hcell hnd hk hbg bp
 go_enter func72, ntmps72
 go_upto_region 1 with fail
 obtain ⟨b, w1, hw, hb, B0, B1, K1, HB⟩ := qa7 w ZL2 141 ZL3 142
 rw [← hw, ← hb]; clear hw hb
 have c1 := (BP.out.kept K1.out).c 1 rfl
 refine wp_region_list ?_
 refine wpList_plain rfl fun K hK => ?_
 go_step
 refine hK _ _ ?_
 clear hK K
 refine wpList_plain rfl fun K hK => ?_
 go_step
 refine hK _ _ ?_
 clear hK K
 refine wpList_plain rfl fun K hK => ?_
 go_step
 refine hK _ _ ?_
 clear hK K
 refine wpList_plain rfl fun K hK => ?_
 go_step
 refine hK _ _ ?_
 clear hK K
 refine wpList_plain rfl fun K hK => ?_
 go_step
 refine hK _ _ ?_
 clear hK K
 refine wpList_plain rfl fun K hK => ?_
 go_step
 refine hK _ _ ?_
 clear hK K
 have HW := qh (fun i y hy => (K1.out.cells g (off + k * 13 + i) hgl).trans (HC.out i y hy))
 refine wpList_plain rfl fun K hK => qav (g := g) (off := off + k * 13) (n := 13) _ rfl rfl HW.out rfl underlying91 rfl (by kernel_rfl) (hK _ _ ?_)
 clear hK K HW HC
 refine wpList_plain rfl fun K hK => ?_
 go_step
 refine hK _ _ ?_
 clear hK K
 have K4 := qh (Kept.new (Below.refl _ w1) (.cells #[.bool false, .string ⟨#[]⟩, .int .i64 0, .bool false, .string ⟨#[]⟩, .int .i64 0, .int .i64 0, .int .u8 0, .int .i64 0, .int .i64 0, .int .i64 0, .int .i64 0, .int .i64 0] 91))
 have B2 := qh (Bx.new w1 [.bool false, .string ⟨#[]⟩, .int .i64 0, .bool false, .string ⟨#[]⟩, .int .i64 0, .int .i64 0, .int .u8 0, .int .i64 0, .int .i64 0, .int .i64 0, .int .i64 0, .int .i64 0] 91 w1.heap.size rfl)
 obtain ⟨h, hh⟩ : ∃ h, h = w1.heap.size := ⟨_, rfl⟩
 have HG := qh (show w1.heap.size ≤ h by omega)
 rw [← hh] at B2 ⊢
 clear hh
 generalize World.alloc w1 _ = w4 at *
 refine wpList_plain rfl fun K hK => qaa (b := h) (n := 13) _ _ rfl rfl rfl B2.out rfl rfl (by kernel_rfl) rfl (hK _ _ ?_)
 clear hK K
 replace B2 := qh (B2.out.row [.bool a0, .string a1, .int .i64 a2, .bool a3, .string a4, .int .i64 a5, .int .i64 a6, .int .u8 t, .int .i64 d, .int .i64 k0, .int .i64 k1, .int .i64 k2, .int .i64 k3])
 replace K4 := qh (Kept.row K4.out HG.out [.bool a0, .string a1, .int .i64 a2, .bool a3, .string a4, .int .i64 a5, .int .i64 a6, .int .u8 t, .int .i64 d, .int .i64 k0, .int .i64 k1, .int .i64 k2, .int .i64 k3])
 generalize World.setRow w4 _ _ = w5 at *
 go_upto_region 3 with fail
 have K6 := qh (Kept.new K4.out (.cells ZL3.toArray 142))
 have B3 := qh (Bx.new w5 ZL3 142 w5.heap.size rfl)
 replace B2 := qh (B2.out.kept (Kept.new (Below.refl _ _) (.cells ZL3.toArray 142)))
 have HQ := qh (show w1.heap.size ≤ w5.heap.size from K4.out.size)
 obtain ⟨q, hq⟩ : ∃ q, q = w5.heap.size := ⟨_, rfl⟩
 rw [← hq] at B3 HQ ⊢
 clear hq K4
 generalize World.alloc w5 _ = w6 at *
 clear c1
 simp only at hcase hn2 hn3
 have HSS := qh hcase
 clear hcase
 refine wp_region_list ?_
 refine wpList_plain rfl fun K hK => qai (b := h) (n := 13) _ rfl rfl B2.out rfl underlying91 rfl (by kernel_rfl) (hK _ _ ?_)
 clear hK K
 rcases HSS.out with rfl | ⟨rfl, h1 | ⟨h1, h2 | ⟨h2, h3⟩⟩⟩
 ·go_upto_region 4 with (go_at_call 36; (with_reducible refine (PT.out _).mono ?_); rintro e w7 ⟨rfl, hk7⟩; have d7 := (B2.out.kept hk7).c 7 rfl; have d8 := (B2.out.kept hk7).c 8 rfl; have p2 := (((BP.out.kept K1.out).kept K6.out).kept hk7).c 2 rfl)
  have KX := qh (K6.out.trans' hk7)
  have QB := qh (B3.out.kept hk7)
  have KD := qh (show Kept w1 (w7).drew from KX.out.trans' (Below.refl _ w7).drew)
  have B0d := qh (B0.out.kept KD.out)
  have B1d := qh (B1.out.kept KD.out)
  have HNE := qh (show q ≠ b ∧ q ≠ b + 1 from by have h1 := (B1.out).lt; have h2 := HQ.out; omega)
  have hS0 : Bx (w7).drew q ZL3 := QB.out.kept (Below.refl _ w7).drew
  refine qab (fun W => Bx W q ZL3) [4] (by kernel_rfl) ?_ (fun hHeld => ?_)
  ·assumption
  refine yS (v := .agg ZL2.toArray) 0 40 ?_ ?_
  ·intro w hSw; (try dsimp only at hSw); go_simp; (try with_reducible rfl)
  try simp only [Act.put, tdy]
  refine yS (v := .agg ZL3.toArray) 1 41 ?_ ?_
  ·intro w hSw; (try dsimp only at hSw); exact qaw (vs := ZL3) (n := 8) _ rfl rfl hSw rfl underlying142 rfl (by kernel_rfl)
  try simp only [Act.put, tdy]
  refine oS 2 fun K hK => ?_
  (refine qbC rfl (qaa (vs := ZL2) (b := b) (n := 28) _ _ rfl rfl rfl B0d.out rfl rfl (by kernel_rfl) rfl ?_); have hS1 : Bx (World.setRow (w7).drew (b) ZL2.toArray) q ZL3 := hS0.off HNE.out.1 ZL2)
  refine hK.out _ _ ?_ (fun hHeld => ?_)
  ·assumption
  clear hK K
  try simp only [Act.put, List.setIfInBounds_toArray]
  refine oS 3 fun K hK => ?_
  (refine qbC rfl (qaa (vs := ZL3) (b := b + 1) (n := 8) _ _ rfl rfl rfl (B1d.out.off (g := b) (by omega) ZL2) rfl rfl (by kernel_rfl) rfl ?_); have hS2 : Bx (World.setRow (World.setRow (w7).drew (b) ZL2.toArray) (b + 1) ZL3.toArray) q ZL3 := hS1.off HNE.out.2 ZL3)
  refine hK.out _ _ ?_ (fun hHeld => ?_)
  ·assumption
  clear hK K
  try simp only [Act.put, List.setIfInBounds_toArray]
  refine eS 4 fun K hK => ?_
  go_simp
  refine hK.out _ _ ?_
  clear hK K
  try simp only [Act.put, tdy]
  refine dS ?_ _
  go_wp2_with fail
  refine qd4 results72 underlying141 rfl (by kernel_rfl) underlying142 rfl (by kernel_rfl) rfl rfl rfl ((B0d.out.row ZL2).off (g := b + 1) (by omega) ZL3) rfl ((B1d.out.off (g := b) (by omega) ZL2).row ZL3) rfl ⟨_, rfl, ⟨ZL2, ZL3, rfl, rfl, rfl, rfl, rfl⟩, Kept.rows (K1.out.trans' KD.out) (show w.heap.size ≤ b from HB.out) (show w.heap.size ≤ b + 1 by have := HB.out; omega) _ _⟩
 ·have h4 : (((t : Int)) != 0) = true := by simpa using h1
  go_upto_region 4 with (go_at_call 36; (with_reducible refine (PT.out _).mono ?_); rintro e w7 ⟨rfl, hk7⟩; have d7 := (B2.out.kept hk7).c 7 rfl; have d8 := (B2.out.kept hk7).c 8 rfl; have p2 := (((BP.out.kept K1.out).kept K6.out).kept hk7).c 2 rfl)
  have KX := qh (K6.out.trans' hk7)
  have QB := qh (B3.out.kept hk7)
  have KD := qh (show Kept w1 (w7).drew from KX.out.trans' (Below.refl _ w7).drew)
  have B0d := qh (B0.out.kept KD.out)
  have B1d := qh (B1.out.kept KD.out)
  have HNE := qh (show q ≠ b ∧ q ≠ b + 1 from by have h1 := (B1.out).lt; have h2 := HQ.out; omega)
  have hS0 : Bx (w7).drew q ZL3 := QB.out.kept (Below.refl _ w7).drew
  refine qab (fun W => Bx W q ZL3) [4] (by kernel_rfl) ?_ (fun hHeld => ?_)
  ·assumption
  refine yS (v := .agg ZL2.toArray) 0 40 ?_ ?_
  ·intro w hSw; (try dsimp only at hSw); go_simp; (try with_reducible rfl)
  try simp only [Act.put, tdy]
  refine yS (v := .agg ZL3.toArray) 1 41 ?_ ?_
  ·intro w hSw; (try dsimp only at hSw); exact qaw (vs := ZL3) (n := 8) _ rfl rfl hSw rfl underlying142 rfl (by kernel_rfl)
  try simp only [Act.put, tdy]
  refine oS 2 fun K hK => ?_
  (refine qbC rfl (qaa (vs := ZL2) (b := b) (n := 28) _ _ rfl rfl rfl B0d.out rfl rfl (by kernel_rfl) rfl ?_); have hS1 : Bx (World.setRow (w7).drew (b) ZL2.toArray) q ZL3 := hS0.off HNE.out.1 ZL2)
  refine hK.out _ _ ?_ (fun hHeld => ?_)
  ·assumption
  clear hK K
  try simp only [Act.put, List.setIfInBounds_toArray]
  refine oS 3 fun K hK => ?_
  (refine qbC rfl (qaa (vs := ZL3) (b := b + 1) (n := 8) _ _ rfl rfl rfl (B1d.out.off (g := b) (by omega) ZL2) rfl rfl (by kernel_rfl) rfl ?_); have hS2 : Bx (World.setRow (World.setRow (w7).drew (b) ZL2.toArray) (b + 1) ZL3.toArray) q ZL3 := hS1.off HNE.out.2 ZL3)
  refine hK.out _ _ ?_ (fun hHeld => ?_)
  ·assumption
  clear hK K
  try simp only [Act.put, List.setIfInBounds_toArray]
  refine eS 4 fun K hK => ?_
  go_simp
  refine hK.out _ _ ?_
  clear hK K
  try simp only [Act.put, tdy]
  refine dS ?_ _
  go_wp2_with fail
  refine qd4 results72 underlying141 rfl (by kernel_rfl) underlying142 rfl (by kernel_rfl) rfl rfl rfl ((B0d.out.row ZL2).off (g := b + 1) (by omega) ZL3) rfl ((B1d.out.off (g := b) (by omega) ZL2).row ZL3) rfl ⟨_, rfl, ⟨ZL2, ZL3, rfl, rfl, rfl, rfl, rfl⟩, Kept.rows (K1.out.trans' KD.out) (show w.heap.size ≤ b from HB.out) (show w.heap.size ≤ b + 1 by have := HB.out; omega) _ _⟩
 ·have h5 : (((t : Int)) != 0) = false := by simpa using h1
  have h4 : (40 : Int) ≤ (d : Int) := by omega
  clear h1
  go_upto_region 4 with (go_at_call 36; (with_reducible refine (PT.out _).mono ?_); rintro e w7 ⟨rfl, hk7⟩; have d7 := (B2.out.kept hk7).c 7 rfl; have d8 := (B2.out.kept hk7).c 8 rfl; have p2 := (((BP.out.kept K1.out).kept K6.out).kept hk7).c 2 rfl)
  have KX := qh (K6.out.trans' hk7)
  have QB := qh (B3.out.kept hk7)
  have KD := qh (show Kept w1 (w7).drew from KX.out.trans' (Below.refl _ w7).drew)
  have B0d := qh (B0.out.kept KD.out)
  have B1d := qh (B1.out.kept KD.out)
  have HNE := qh (show q ≠ b ∧ q ≠ b + 1 from by have h1 := (B1.out).lt; have h2 := HQ.out; omega)
  have hS0 : Bx (w7).drew q ZL3 := QB.out.kept (Below.refl _ w7).drew
  refine qab (fun W => Bx W q ZL3) [4] (by kernel_rfl) ?_ (fun hHeld => ?_)
  ·assumption
  refine yS (v := .agg ZL2.toArray) 0 40 ?_ ?_
  ·intro w hSw; (try dsimp only at hSw); go_simp; (try with_reducible rfl)
  try simp only [Act.put, tdy]
  refine yS (v := .agg ZL3.toArray) 1 41 ?_ ?_
  ·intro w hSw; (try dsimp only at hSw); exact qaw (vs := ZL3) (n := 8) _ rfl rfl hSw rfl underlying142 rfl (by kernel_rfl)
  try simp only [Act.put, tdy]
  refine oS 2 fun K hK => ?_
  (refine qbC rfl (qaa (vs := ZL2) (b := b) (n := 28) _ _ rfl rfl rfl B0d.out rfl rfl (by kernel_rfl) rfl ?_); have hS1 : Bx (World.setRow (w7).drew (b) ZL2.toArray) q ZL3 := hS0.off HNE.out.1 ZL2)
  refine hK.out _ _ ?_ (fun hHeld => ?_)
  ·assumption
  clear hK K
  try simp only [Act.put, List.setIfInBounds_toArray]
  refine oS 3 fun K hK => ?_
  (refine qbC rfl (qaa (vs := ZL3) (b := b + 1) (n := 8) _ _ rfl rfl rfl (B1d.out.off (g := b) (by omega) ZL2) rfl rfl (by kernel_rfl) rfl ?_); have hS2 : Bx (World.setRow (World.setRow (w7).drew (b) ZL2.toArray) (b + 1) ZL3.toArray) q ZL3 := hS1.off HNE.out.2 ZL3)
  refine hK.out _ _ ?_ (fun hHeld => ?_)
  ·assumption
  clear hK K
  try simp only [Act.put, List.setIfInBounds_toArray]
  refine eS 4 fun K hK => ?_
  go_simp
  refine hK.out _ _ ?_
  clear hK K
  try simp only [Act.put, tdy]
  refine dS ?_ _
  go_wp2_with fail
  refine qd4 results72 underlying141 rfl (by kernel_rfl) underlying142 rfl (by kernel_rfl) rfl rfl rfl ((B0d.out.row ZL2).off (g := b + 1) (by omega) ZL3) rfl ((B1d.out.off (g := b) (by omega) ZL2).row ZL3) rfl ⟨_, rfl, ⟨ZL2, ZL3, rfl, rfl, rfl, rfl, rfl⟩, Kept.rows (K1.out.trans' KD.out) (show w.heap.size ≤ b from HB.out) (show w.heap.size ≤ b + 1 by have := HB.out; omega) _ _⟩
 ·have h5 : (((t : Int)) != 0) = false := by simpa using h1
  have h4 : (d : Int) < 40 := by omega
  have h6 : (65536 : Int) < (sn : Int) + 3 := by omega
  clear h1
  go_upto_region 4 with (go_at_call 36; (with_reducible refine (PT.out _).mono ?_); rintro e w7 ⟨rfl, hk7⟩; have d7 := (B2.out.kept hk7).c 7 rfl; have d8 := (B2.out.kept hk7).c 8 rfl; have p2 := (((BP.out.kept K1.out).kept K6.out).kept hk7).c 2 rfl)
  have KX := qh (K6.out.trans' hk7)
  have QB := qh (B3.out.kept hk7)
  have KD := qh (show Kept w1 (w7).drew from KX.out.trans' (Below.refl _ w7).drew)
  have B0d := qh (B0.out.kept KD.out)
  have B1d := qh (B1.out.kept KD.out)
  have HNE := qh (show q ≠ b ∧ q ≠ b + 1 from by have h1 := (B1.out).lt; have h2 := HQ.out; omega)
  have hS0 : Bx (w7).drew q ZL3 := QB.out.kept (Below.refl _ w7).drew
  refine qab (fun W => Bx W q ZL3) [4] (by kernel_rfl) ?_ (fun hHeld => ?_)
  ·assumption
  refine yS (v := .agg ZL2.toArray) 0 40 ?_ ?_
  ·intro w hSw; (try dsimp only at hSw); go_simp; (try with_reducible rfl)
  try simp only [Act.put, tdy]
  refine yS (v := .agg ZL3.toArray) 1 41 ?_ ?_
  ·intro w hSw; (try dsimp only at hSw); exact qaw (vs := ZL3) (n := 8) _ rfl rfl hSw rfl underlying142 rfl (by kernel_rfl)
  try simp only [Act.put, tdy]
  refine oS 2 fun K hK => ?_
  (refine qbC rfl (qaa (vs := ZL2) (b := b) (n := 28) _ _ rfl rfl rfl B0d.out rfl rfl (by kernel_rfl) rfl ?_); have hS1 : Bx (World.setRow (w7).drew (b) ZL2.toArray) q ZL3 := hS0.off HNE.out.1 ZL2)
  refine hK.out _ _ ?_ (fun hHeld => ?_)
  ·assumption
  clear hK K
  try simp only [Act.put, List.setIfInBounds_toArray]
  refine oS 3 fun K hK => ?_
  (refine qbC rfl (qaa (vs := ZL3) (b := b + 1) (n := 8) _ _ rfl rfl rfl (B1d.out.off (g := b) (by omega) ZL2) rfl rfl (by kernel_rfl) rfl ?_); have hS2 : Bx (World.setRow (World.setRow (w7).drew (b) ZL2.toArray) (b + 1) ZL3.toArray) q ZL3 := hS1.off HNE.out.2 ZL3)
  refine hK.out _ _ ?_ (fun hHeld => ?_)
  ·assumption
  clear hK K
  try simp only [Act.put, List.setIfInBounds_toArray]
  refine eS 4 fun K hK => ?_
  go_simp
  refine hK.out _ _ ?_
  clear hK K
  try simp only [Act.put, tdy]
  refine dS ?_ _
  go_wp2_with fail
  refine qd4 results72 underlying141 rfl (by kernel_rfl) underlying142 rfl (by kernel_rfl) rfl rfl rfl ((B0d.out.row ZL2).off (g := b + 1) (by omega) ZL3) rfl ((B1d.out.off (g := b) (by omega) ZL2).row ZL3) rfl ⟨_, rfl, ⟨ZL2, ZL3, rfl, rfl, rfl, rfl, rfl⟩, Kept.rows (K1.out.trans' KD.out) (show w.heap.size ≤ b from HB.out) (show w.heap.size ≤ b + 1 by have := HB.out; omega) _ _⟩
end Go.Proofs.YtfdnledkcongaaaGreatDoor
