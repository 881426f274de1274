/- Texts of one claim laid together: WidJ, WidK, WidL, Dyb, Nea, FltO, FlD, Vie, Tre, Ord, Pre, Byt, DoP, DoA, DoB. -/
import Derived.Test.YtfdnledkcongaaaGreatDoorQ1
import Derived.Deep.DeepCutAuto
import Ieee.Word
import Derived.Laws.ComplexArith
import Derived.WalkKit
import Derived.Lib.RabinKarpLaws
set_option linter.all false
namespace Go.Proofs.YtfdnledkcongaaaGreatDoor
open Go.RowKit Go.Proofs.Tryz
section
set_option maxHeartbeats 1600000
set_option maxRecDepth 100000
theorem qbe {W V W' : World} {r : Option Nat} (h : Kept W V) (hg : V.grownBy W' r) : W.grownBy W' r :=
 ⟨hg.os.trans h.os, hg.tape.trans h.tape, hg.output.trans h.output, Nat.le_trans h.size hg.size, fun k hk hne => (hg.block k (Nat.lt_of_lt_of_le hk h.size) hne).trans (h.block k hk)⟩
theorem qiL (p q : Nat) (b0 : Bool) (u : Value) (x : Int) (k : Nat) (w : World) (hx : qaq w p x k) (hq : qaY w q b0 u) (hu : ∀ x : Int, u ≠ .int .u32 x) :
  Calls prog 151 #[.pointer (some ⟨q, 0, none⟩), .pointer (some ⟨p, 0, none⟩)] w fun e w' => e = .returned (.pointer (some ⟨q, 0, none⟩)) ∧ qaq w' q (-x) k ∧ w.grownBy w' (some q) := by
 obtain ⟨v, hb, hd⟩ := hx
 have CL : Hid (∀ W, Kept w W → Calls prog 152 #[.pointer (some ⟨q, 0, none⟩), .bool (!decide (x < 0)), v] W fun e w' => e = .returned (.pointer (some ⟨q, 0, none⟩)) ∧ qaq w' q (-x) k ∧ W.grownBy w' (some q)) := fun W h =>
  qbM q b0 _ u v (-x) x.natAbs k W (hq.kept h) hu (hd.kept h) (by omega) (by rw [Bool.eq_iff_iff]; simp only [Bool.and_eq_true, Bool.not_eq_true', decide_eq_true_eq, decide_eq_false_iff_not]; omega)
 obtain ⟨b, hbv⟩ : ∃ b, b = decide (x < 0) := ⟨_, rfl⟩
 rw [← hbv] at hb CL
 have HS := qh (And.intro hb.c0 hb.c1)
 clear hbv hb hd hq hu
 go_enter func151, ntmps151
 go_wp2_with fail
 refine qab (fun W => W.cell? ⟨p, 0, none⟩ = some (.bool b) ∧ W.cell? ⟨p, 1, none⟩ = some v) [10,11] (by kernel_rfl) ?_ (fun hHeld => ?_)
 ·first | exact HS.out | assumption
 refine wS 0 5 ?_
 refine wS 1 6 ?_
 refine wS 2 7 ?_
 refine wS 3 8 ?_
 refine wS 4 9 ?_
 refine wS 5 10 ?_
 refine wS 6 11 ?_
 refine wS 7 12 ?_
 refine wS 8 13 ?_
 refine wS 9 14 ?_
 refine eS 10 fun K hK => ?_
 go_simp
 (refine (CL.out _ ((Below.refl _ _).drew)).mono ?_; rintro e w9 ⟨rfl, h9, hg9⟩)
 refine hK.out _ _ ?_
 clear hK K
 try simp only [Act.put, tdy]
 refine eS 11 fun K hK => ?_
 go_simp
 refine hK.out _ _ ?_
 clear hK K
 try simp only [Act.put, tdy]
 refine dS ?_ _
 go_wp2_with fail
 go_ret
 exact ⟨rfl, h9, qbe ((Below.refl _ w).drew) hg9⟩
theorem qmB (p q : Nat) (b0 : Bool) (u : Value) (x : Int) (k : Nat) (w : World) (hx : qaq w p x k) (hq : qaY w q b0 u) (hu : ∀ x : Int, u ≠ .int .u32 x) :
  Calls prog 168 #[.pointer (some ⟨q, 0, none⟩), .pointer (some ⟨p, 0, none⟩)] w fun e w' => e = .returned (.pointer (some ⟨q, 0, none⟩)) ∧ qaq w' q (x.natAbs : Int) k ∧ w.grownBy w' (some q) := by
 obtain ⟨v, hb, hd⟩ := hx
 have CL := qh (qbM q b0 false u v (x.natAbs : Int) x.natAbs k w hq hu hd (by omega) (by rw [Bool.eq_iff_iff]; simp))
 have c1 := hb.c1
 clear hb hd hq hu
 go_enter func168, ntmps168
 go_wp2_with (go_at_call 152; refine CL.out.mono ?_; rintro e w9 ⟨rfl, h9, hg9⟩)
 go_ret
 exact ⟨rfl, h9, hg9⟩
theorem qfO (p : Nat) (x : Int) (k : Nat) (w : World) (hx : qaq w p x k) :
  Calls prog 154 #[.pointer (some ⟨p, 0, none⟩)] w fun e w' => e = .returned (.int .i64 x.sign) ∧ w' = w := by
 obtain ⟨v, hb, A, c, l, rfl, -, -, -, hdl⟩ := hx
 have hpos : l.length = 0 ↔ x = 0 := List.length_eq_zero_iff.trans ((hdl.qcb (by omega)).trans (by omega))
 have c0 := hb.c0
 have c1 := hb.c1
 clear hb hdl
 rcases Int.lt_trichotomy x 0 with h | h | h
 ·have h1 : ¬ (l.length : Int) = 0 := by omega
  have e : decide (x < 0) = true := decide_eq_true h
  rw [e] at c0
  have hs : x.sign = -1 := Int.sign_eq_neg_one_of_neg h
  clear hpos e
  go_enter func154, ntmps154
  go_wp2_with fail
  go_ret
  exact ⟨by rw [hs]; rfl, rfl⟩
 ·have h1 : (l.length : Int) = 0 := by omega
  have hs : x.sign = 0 := by rw [h]; rfl
  clear hpos c0
  go_enter func154, ntmps154
  go_wp2_with fail
  go_ret
  exact ⟨by rw [hs]; rfl, rfl⟩
 ·have h1 : ¬ (l.length : Int) = 0 := by omega
  have e : decide (x < 0) = false := decide_eq_false (by omega)
  rw [e] at c0
  have hs : x.sign = 1 := Int.sign_eq_one_of_pos h
  clear hpos e
  go_enter func154, ntmps154
  go_wp2_with fail
  go_ret
  exact ⟨by rw [hs]; rfl, rfl⟩
theorem qn6 (p : Nat) (x : Int) (k t : Nat) (w : World) (hx : qaq w p x k) (hk : k ≤ 100000000) (ht : qch x.natAbs t) (hT : T32 w) :
  Calls prog 166 #[.pointer (some ⟨p, 0, none⟩)] w fun e w' => e = .returned (.int .u64 (t : Int)) ∧ w' = w := by
 obtain ⟨v, hb, A, c, l, rfl, -, hl, hr, hdl⟩ := hx
 have CL := qh (qnu A c l x.natAbs t w (by omega) hr hdl ht hT)
 have c1 := hb.c1
 clear hb hr hdl hT ht
 go_enter func166, ntmps166
 go_wp2_with (go_at_call 185; refine CL.out.mono ?_; rintro e w9 ⟨rfl, rfl⟩)
 go_ret
 exact ⟨rfl, rfl⟩
theorem qf1 (p : Nat) (x : Int) (k : Nat) (w : World) (hx : qaq w p x k) (hk : k ≤ 100000000) :
  Calls prog 149 #[.pointer (some ⟨p, 0, none⟩)] w fun e w' => ∃ t : Nat, e = .returned (.int .i64 (t : Int)) ∧ qbs x.natAbs t ∧ t ≤ 32 * k ∧ w' = w := by
 obtain ⟨v, hb, A, c, l, rfl, -, hl, hr, hdl⟩ := hx
 have CL := qh (qhT A c l x.natAbs w (by omega) hr hdl)
 have c1 := hb.c1
 clear hb hr hdl
 go_enter func149, ntmps149
 go_wp2_with (go_at_call 181; refine CL.out.mono ?_; rintro e w9 ⟨t, rfl, h1, h2, rfl⟩)
 go_ret
 exact ⟨t, rfl, h1, by omega, rfl⟩
end
section
set_option maxHeartbeats 1600000
set_option maxRecDepth 100000
theorem qm5 (x : Int) (s : Nat) : (decide (x < 0) && decide (0 < x.natAbs * 2 ^ s)) = decide (x * 2 ^ s < 0) := by
 have hp : (0 : Int) < 2 ^ s := Int.pow_pos (by omega)
 rw [Bool.eq_iff_iff]
 simp only [Bool.and_eq_true, decide_eq_true_eq]
 constructor
 ·rintro ⟨h, -⟩
  exact Int.mul_neg_of_neg_of_pos h hp
 ·intro h
  have hx : x < 0 := by
   rcases Int.lt_or_le x 0 with h1 | h1
   ·exact h1
   ·have := Int.mul_nonneg h1 (Int.le_of_lt hp); omega
  exact ⟨hx, Nat.mul_pos (by omega) (Nat.pow_pos (by omega))⟩
theorem qn3 (x : Int) (s : Nat) : (x * 2 ^ s).natAbs = x.natAbs * 2 ^ s := by
 rw [Int.natAbs_mul, Int.natAbs_pow]; rfl
theorem qiT (p q : Nat) (b0 : Bool) (u : Value) (x : Int) (k s : Nat) (w : World) (hx : qaq w p x k) (hk : k ≤ 100000000) (hs : s ≤ 1000000000) (hq : qaY w q b0 u) (hu : ∀ x : Int, u ≠ .int .u32 x) :
  Calls prog 110 #[.pointer (some ⟨q, 0, none⟩), .pointer (some ⟨p, 0, none⟩), .int .u64 (s : Int)] w fun e w' => e = .returned (.pointer (some ⟨q, 0, none⟩)) ∧ qaq w' q (x * 2 ^ s) (k + s / 32 + 1) ∧ w.grownBy w' (some q) := by
 obtain ⟨v, hb, A, c, l, rfl, hlc, hl, hr, hdl⟩ := hx
 have C1 : Hid (∀ W, Kept w W → Calls prog 153 #[.slice A l.length c, .int .u64 (s : Int)] W fun e w' => ∃ v, e = .returned v ∧ qbR w' v (x.natAbs * 2 ^ s) (k + s / 32 + 1) ∧ Kept W w') := fun W h =>
  (qmg A c l x.natAbs s W (by omega) hs (hr.kept h) hdl).mono fun e w' ⟨v, h1, h2, h3⟩ => ⟨v, h1, h2.more (by omega), h3⟩
 have C2 : Hid (∀ W v, Kept w W → qbR W v (x.natAbs * 2 ^ s) (k + s / 32 + 1) → Calls prog 152 #[.pointer (some ⟨q, 0, none⟩), .bool (decide (x < 0)), v] W fun e w' => e = .returned (.pointer (some ⟨q, 0, none⟩)) ∧ qaq w' q (x * 2 ^ s) (k + s / 32 + 1) ∧ W.grownBy w' (some q)) := fun W v h hd =>
  qbM q b0 _ u v (x * 2 ^ s) (x.natAbs * 2 ^ s) _ W (hq.kept h) hu hd (qn3 x s) (qm5 x s)
 obtain ⟨b, hbv⟩ : ∃ b, b = decide (x < 0) := ⟨_, rfl⟩
 rw [← hbv] at hb C2
 have SK : Hid (∀ W, Kept w W → W.cell? ⟨p, 0, none⟩ = some (.bool b) ∧ W.cell? ⟨p, 1, none⟩ = some (.slice A l.length c)) := fun W h => ⟨(hb.kept h).c0, (hb.kept h).c1⟩
 have HS := qh (SK.out w (Below.refl _ _))
 clear hbv hb hr hdl hq hu
 go_enter func110, ntmps110
 go_wp2_with fail
 refine qab (fun W => W.cell? ⟨p, 0, none⟩ = some (.bool b) ∧ W.cell? ⟨p, 1, none⟩ = some (.slice A l.length c)) [11,12] (by kernel_rfl) ?_ (fun hHeld => ?_)
 ·first | exact HS.out | assumption
 refine wS 0 7 ?_
 refine wS 1 8 ?_
 refine wS 2 9 ?_
 refine wS 3 10 ?_
 refine wS 4 11 ?_
 refine wS 5 12 ?_
 refine wS 6 13 ?_
 refine wS 7 14 ?_
 refine wS 8 15 ?_
 refine wS 9 16 ?_
 refine oS 10 fun K hK => ?_
 go_simp
 (refine (C1.out _ ((Below.refl _ _).drew)).mono ?_; rintro e w8 ⟨v8, rfl, hd8, hk8⟩; have K8 : Kept w w8 := ((Below.refl _ w).drew).trans hk8; have hS8 := SK.out w8 K8)
 refine hK.out _ _ ?_ (fun hHeld => ?_)
 ·first | exact HS.out | assumption
 clear hK K
 try simp only [Act.put, tdy]
 refine eS 11 fun K hK => ?_
 go_simp
 (refine (C2.out _ _ K8 hd8).mono ?_; rintro e w9 ⟨rfl, h9, hg9⟩)
 refine hK.out _ _ ?_
 clear hK K
 try simp only [Act.put, tdy]
 refine eS 12 fun K hK => ?_
 go_simp
 refine hK.out _ _ ?_
 clear hK K
 try simp only [Act.put, tdy]
 refine dS ?_ _
 go_wp2_with fail
 go_ret
 exact ⟨rfl, h9, qbe K8 hg9⟩
theorem sign_mul (x y : Int) : ((decide (x < 0) != decide (y < 0)) && decide (0 < x.natAbs * y.natAbs)) = decide (x * y < 0) := by
 rw [Bool.eq_iff_iff]
 simp only [Bool.and_eq_true, decide_eq_true_eq, bne_iff_ne, ne_eq]
 rcases Int.lt_trichotomy x 0 with hx | hx | hx
 ·rcases Int.lt_trichotomy y 0 with hy | hy | hy
  ·have := Int.mul_pos_of_neg_of_neg hx hy
   simp [hx, hy]; omega
  ·subst hy; simp
  ·have := Int.mul_neg_of_neg_of_pos hx hy
   have h1 : 0 < x.natAbs * y.natAbs := Nat.mul_pos (by omega) (by omega)
   have h2 : ¬ y < 0 := by omega
   simp only [hx, h2, this, h1]
   simp
 ·subst hx; simp
 ·rcases Int.lt_trichotomy y 0 with hy | hy | hy
  ·have := Int.mul_neg_of_pos_of_neg hx hy
   have h1 : 0 < x.natAbs * y.natAbs := Nat.mul_pos (by omega) (by omega)
   have h2 : ¬ x < 0 := by omega
   simp only [hy, h2, this, h1]
   simp
  ·subst hy; simp
  ·have := Int.mul_pos hx hy
   have h1 : ¬ x < 0 := by omega
   have h2 : ¬ y < 0 := by omega
   simp [h1, h2]; omega
theorem qmZ (p r q : Nat) (b0 : Bool) (u : Value) (x y : Int) (k j : Nat) (w : World) (hx : qaq w p x k) (hy : qaq w r y j) (hk : k ≤ 100000000) (hj : j ≤ 100000000) (hq : qaY w q b0 u) (hu : ∀ x : Int, u ≠ .int .u32 x) :
  Calls prog 139 #[.pointer (some ⟨q, 0, none⟩), .pointer (some ⟨p, 0, none⟩), .pointer (some ⟨r, 0, none⟩)] w fun e w' => e = .returned (.pointer (some ⟨q, 0, none⟩)) ∧ qaq w' q (x * y) (k + j) ∧ w.grownBy w' (some q) := by
 obtain ⟨v, hb, A, c, l, rfl, hlc, hl, hr, hdl⟩ := hx
 obtain ⟨v', hb', A', c', l', rfl, hlc', hl', hr', hdl'⟩ := hy
 have C1 : Hid (∀ W, Kept w W → Calls prog 174 #[.slice A l.length c, .slice A' l'.length c'] W fun e w' => ∃ v, e = .returned v ∧ qbR w' v (x.natAbs * y.natAbs) (k + j) ∧ Kept W w') := fun W h =>
  (qj8 A A' c c' l l' x.natAbs y.natAbs W (by omega) (by omega) (hr.kept h) (hr'.kept h) hdl hdl').mono fun e w' ⟨v, h1, h2, h3⟩ => ⟨v, h1, h2.more (by omega), h3⟩
 have C2 : Hid (∀ W v, Kept w W → qbR W v (x.natAbs * y.natAbs) (k + j) → Calls prog 152 #[.pointer (some ⟨q, 0, none⟩), .bool (decide (x < 0) != decide (y < 0)), v] W fun e w' => e = .returned (.pointer (some ⟨q, 0, none⟩)) ∧ qaq w' q (x * y) (k + j) ∧ W.grownBy w' (some q)) := fun W v h hd =>
  qbM q b0 _ u v (x * y) (x.natAbs * y.natAbs) _ W (hq.kept h) hu hd (Int.natAbs_mul x y) (sign_mul x y)
 obtain ⟨b, hbv⟩ : ∃ b, b = decide (x < 0) := ⟨_, rfl⟩
 obtain ⟨b', hbv'⟩ : ∃ b, b = decide (y < 0) := ⟨_, rfl⟩
 rw [← hbv] at hb C2
 rw [← hbv'] at hb' C2
 have SK : Hid (∀ W, Kept w W → W.cell? ⟨p, 0, none⟩ = some (.bool b) ∧ W.cell? ⟨p, 1, none⟩ = some (.slice A l.length c) ∧ W.cell? ⟨r, 0, none⟩ = some (.bool b') ∧ W.cell? ⟨r, 1, none⟩ = some (.slice A' l'.length c')) := fun W h => ⟨(hb.kept h).c0, (hb.kept h).c1, (hb'.kept h).c0, (hb'.kept h).c1⟩
 have HS := qh (SK.out w (Below.refl _ _))
 clear hbv hb hr hdl hbv' hb' hr' hdl' hq hu
 go_enter func139, ntmps139
 go_wp2_with fail
 refine qab (fun W => W.cell? ⟨p, 0, none⟩ = some (.bool b) ∧ W.cell? ⟨p, 1, none⟩ = some (.slice A l.length c) ∧ W.cell? ⟨r, 0, none⟩ = some (.bool b') ∧ W.cell? ⟨r, 1, none⟩ = some (.slice A' l'.length c')) [19,20] (by kernel_rfl) ?_ (fun hHeld => ?_)
 ·first | exact HS.out | assumption
 refine wS 0 7 ?_
 refine wS 1 8 ?_
 refine wS 2 9 ?_
 refine wS 3 10 ?_
 refine wS 4 11 ?_
 refine wS 5 12 ?_
 refine wS 6 13 ?_
 refine wS 7 14 ?_
 refine wS 8 15 ?_
 refine wS 9 16 ?_
 refine wS 10 17 ?_
 refine wS 11 18 ?_
 refine wS 12 19 ?_
 refine wS 13 20 ?_
 refine wS 14 21 ?_
 refine wS 15 22 ?_
 refine wS 16 23 ?_
 refine wS 17 24 ?_
 refine oS 18 fun K hK => ?_
 go_simp
 (refine (C1.out _ ((Below.refl _ _).drew)).mono ?_; rintro e w8 ⟨v8, rfl, hd8, hk8⟩; have K8 : Kept w w8 := ((Below.refl _ w).drew).trans hk8; have hS8 := SK.out w8 K8)
 refine hK.out _ _ ?_ (fun hHeld => ?_)
 ·first | exact HS.out | assumption
 clear hK K
 try simp only [Act.put, tdy]
 refine eS 19 fun K hK => ?_
 go_simp
 (refine (C2.out _ _ K8 hd8).mono ?_; rintro e w9 ⟨rfl, h9, hg9⟩)
 refine hK.out _ _ ?_
 clear hK K
 try simp only [Act.put, tdy]
 refine eS 20 fun K hK => ?_
 go_simp
 refine hK.out _ _ ?_
 clear hK K
 try simp only [Act.put, tdy]
 refine dS ?_ _
 go_wp2_with fail
 go_ret
 exact ⟨rfl, h9, qbe K8 hg9⟩
end
def qdA (x y : Int) : Int := if x < y then -1 else if y < x then 1 else 0
theorem qb5 {x y : Int} (h : x < y) : qdA x y = -1 := by unfold qdA; rw [if_pos h]
theorem qcd {x y : Int} (h : y < x) : qdA x y = 1 := by unfold qdA; rw [if_neg (by omega), if_pos h]
theorem qna {x y : Int} (hx : x < 0) (hy : y < 0) : qbD y.natAbs x.natAbs = qdA x y := by
 rcases Int.lt_trichotomy x y with h | h | h
 ·rw [qb5 h, qcv (by omega)]
 ·subst h; rw [qd7]; simp [qdA]
 ·rw [qcd h, qdi (by omega)]
theorem qm6 {x y : Int} (hx : 0 ≤ x) (hy : 0 ≤ y) : qbD x.natAbs y.natAbs = qdA x y := by
 rcases Int.lt_trichotomy x y with h | h | h
 ·rw [qb5 h, qcv (by omega)]
 ·subst h; rw [qd7]; simp [qdA]
 ·rw [qcd h, qdi (by omega)]
set_option maxRecDepth 100000 in
set_option maxHeartbeats 1600000 in
theorem qmP (p r : Nat) (x y : Int) (k j : Nat) (w : World) (hx : qaq w p x k) (hy : qaq w r y j) (hk : k ≤ 100000000) (hj : j ≤ 100000000) :
  Calls prog 111 #[.pointer (some ⟨p, 0, none⟩), .pointer (some ⟨r, 0, none⟩)] w fun e w' => e = .returned (.int .i64 (qdA x y)) ∧ Kept w w' := by
 have S1 := qh (qfO p x k w hx)
 have S2 := qh (qfO r y j w hy)
 obtain ⟨v, hb, A, c, l, rfl, hlc, hl, hr, hdl⟩ := hx
 obtain ⟨v', hb', A', c', l', rfl, hlc', hl', hr', hdl'⟩ := hy
 by_cases hs : x.sign = y.sign
 ·by_cases hn : x < 0
  ·skip
   have hyn : y < 0 := by
    rw [Int.sign_eq_neg_one_of_neg hn] at hs
    exact Int.sign_eq_neg_one_iff_neg.1 hs.symm
   have CL : Hid (∀ W, Kept w W → Calls prog 155 #[.slice A' l'.length c', .slice A l.length c] W fun e w' => e = .returned (.int .i64 (qdA x y)) ∧ Kept W w') := fun W h =>
    (qgZ A' A c' c l' l y.natAbs x.natAbs W (by omega) (by omega) (hr'.kept h) (hr.kept h) hdl' hdl).mono fun e w' ⟨h1, m, h2⟩ => ⟨by rw [h1, qna hn hyn], by rw [h2]; exact qaz (Below.refl _ _) m⟩
   have e0 : decide (x < 0) = true := decide_eq_true hn
   rw [e0] at hb
   rw [← hs] at S2
   have SK : Hid (∀ W, Kept w W → W.cell? ⟨p, 0, none⟩ = some (.bool true) ∧ W.cell? ⟨p, 1, none⟩ = some (.slice A l.length c) ∧ W.cell? ⟨r, 1, none⟩ = some (.slice A' l'.length c')) := fun W h => ⟨(hb.kept h).c0, (hb.kept h).c1, (hb'.kept h).c1⟩
   have HS := qh (SK.out w (Below.refl _ _))
   have c0 := hb.c0
   obtain ⟨s, hsv⟩ : ∃ s, s = x.sign := ⟨_, rfl⟩
   rw [← hsv] at S1 S2
   clear hb hb' hr hr' hdl hdl' e0 hs hsv
   go_enter func111, ntmps111
   go_wp2_with (first
    | (go_at_call 154; (with_reducible refine S1.out.mono ?_); rintro e w1 ⟨rfl, hw1⟩; subst hw1)
    | (go_at_call 154; (with_reducible refine S2.out.mono ?_); rintro e w1 ⟨rfl, hw1⟩; subst hw1))
   refine qcn (fun W => W.cell? ⟨p, 0, none⟩ = some (.bool true) ∧ W.cell? ⟨p, 1, none⟩ = some (.slice A l.length c) ∧ W.cell? ⟨r, 1, none⟩ = some (.slice A' l'.length c')) 9 (by kernel_rfl) ?_ (fun hHeld => ?_)
   ·first | exact HS.out | assumption
   refine wL 0 21 ?_
   refine wL 1 22 ?_
   refine wL 2 23 ?_
   refine wL 3 24 ?_
   refine wL 4 25 ?_
   refine wL 5 26 ?_
   refine wL 6 27 ?_
   refine wL 7 28 ?_
   refine oL 8 fun K hK => ?_
   go_simp
   (refine (CL.out _ ((Below.refl _ _).drew)).mono ?_; rintro e w8 ⟨rfl, hk8⟩; have K8 : Kept w1 w8 := ((Below.refl _ w1).drew).trans hk8; have hS8 := SK.out w8 K8)
   refine hK.out _ _ ?_ (fun hHeld => ?_)
   ·first | exact HS.out | assumption
   clear hK K
   try simp only [Act.put, tdy]
   refine eL fun K hK => ?_
   go_simp
   refine hK.out _ _ ?_
   clear hK K
   try simp only [Act.put, tdy]
   refine dL ?_ _
   go_wp2_with fail
   go_ret
   exact ⟨rfl, K8⟩
  ·skip
   have hyn : 0 ≤ y := by
    rcases Int.lt_or_le y 0 with h | h
    ·rw [Int.sign_eq_neg_one_of_neg h] at hs
     exact absurd (Int.sign_eq_neg_one_iff_neg.1 hs) hn
    ·exact h
   have CL : Hid (∀ W, Kept w W → Calls prog 155 #[.slice A l.length c, .slice A' l'.length c'] W fun e w' => e = .returned (.int .i64 (qdA x y)) ∧ Kept W w') := fun W h =>
    (qgZ A A' c c' l l' x.natAbs y.natAbs W (by omega) (by omega) (hr.kept h) (hr'.kept h) hdl hdl').mono fun e w' ⟨h1, m, h2⟩ => ⟨by rw [h1, qm6 (by omega) hyn], by rw [h2]; exact qaz (Below.refl _ _) m⟩
   have e0 : decide (x < 0) = false := decide_eq_false hn
   rw [e0] at hb
   rw [← hs] at S2
   have SK : Hid (∀ W, Kept w W → W.cell? ⟨p, 0, none⟩ = some (.bool false) ∧ W.cell? ⟨p, 1, none⟩ = some (.slice A l.length c) ∧ W.cell? ⟨r, 1, none⟩ = some (.slice A' l'.length c')) := fun W h => ⟨(hb.kept h).c0, (hb.kept h).c1, (hb'.kept h).c1⟩
   have HS := qh (SK.out w (Below.refl _ _))
   have c0 := hb.c0
   obtain ⟨s, hsv⟩ : ∃ s, s = x.sign := ⟨_, rfl⟩
   rw [← hsv] at S1 S2
   clear hb hb' hr hr' hdl hdl' e0 hs hsv
   go_enter func111, ntmps111
   go_wp2_with (first
    | (go_at_call 154; (with_reducible refine S1.out.mono ?_); rintro e w1 ⟨rfl, hw1⟩; subst hw1)
    | (go_at_call 154; (with_reducible refine S2.out.mono ?_); rintro e w1 ⟨rfl, hw1⟩; subst hw1))
   refine qcn (fun W => W.cell? ⟨p, 0, none⟩ = some (.bool false) ∧ W.cell? ⟨p, 1, none⟩ = some (.slice A l.length c) ∧ W.cell? ⟨r, 1, none⟩ = some (.slice A' l'.length c')) 9 (by kernel_rfl) ?_ (fun hHeld => ?_)
   ·first | exact HS.out | assumption
   refine wL 0 30 ?_
   refine wL 1 31 ?_
   refine wL 2 32 ?_
   refine wL 3 33 ?_
   refine wL 4 34 ?_
   refine wL 5 35 ?_
   refine wL 6 36 ?_
   refine wL 7 37 ?_
   refine oL 8 fun K hK => ?_
   go_simp
   (refine (CL.out _ ((Below.refl _ _).drew)).mono ?_; rintro e w8 ⟨rfl, hk8⟩; have K8 : Kept w1 w8 := ((Below.refl _ w1).drew).trans hk8; have hS8 := SK.out w8 K8)
   refine hK.out _ _ ?_ (fun hHeld => ?_)
   ·first | exact HS.out | assumption
   clear hK K
   try simp only [Act.put, tdy]
   refine eL fun K hK => ?_
   go_simp
   refine hK.out _ _ ?_
   clear hK K
   try simp only [Act.put, tdy]
   refine dL ?_ _
   go_wp2_with fail
   go_ret
   exact ⟨rfl, K8⟩
 ·rcases (show x.sign < y.sign ∨ y.sign < x.sign by omega) with h | h
  ·skip
   clear hb hb' hr hr' hdl hdl'
   have h1 : x.sign < y.sign := by omega
   have hc := qh (show qdA x y = -1 by
    apply qb5
    rcases Int.lt_trichotomy x 0 with a | a | a <;> rcases Int.lt_trichotomy y 0 with b | b | b <;> first | omega | (simp only [Int.sign_eq_neg_one_of_neg, Int.sign_eq_one_of_pos, a, b, Int.sign_zero] at h; omega))
   obtain ⟨s, hsv⟩ : ∃ s, s = x.sign := ⟨_, rfl⟩
   obtain ⟨t, htv⟩ : ∃ s, s = y.sign := ⟨_, rfl⟩
   rw [← hsv] at S1 hs h1
   rw [← htv] at S2 hs h1
   clear hsv htv h
   go_enter func111, ntmps111
   go_wp2_with (first
    | (go_at_call 154; (with_reducible refine S1.out.mono ?_); rintro e w1 ⟨rfl, hw1⟩; subst hw1)
    | (go_at_call 154; (with_reducible refine S2.out.mono ?_); rintro e w1 ⟨rfl, hw1⟩; subst hw1))
   go_ret
   exact ⟨qaT hc.out.symm, Below.refl _ _⟩
  ·skip
   clear hb hb' hr hr' hdl hdl'
   have h1 : ¬ x.sign < y.sign := by omega
   have hc := qh (show qdA x y = 1 by
    apply qcd
    rcases Int.lt_trichotomy x 0 with a | a | a <;> rcases Int.lt_trichotomy y 0 with b | b | b <;> first | omega | (simp only [Int.sign_eq_neg_one_of_neg, Int.sign_eq_one_of_pos, a, b, Int.sign_zero] at h; omega))
   obtain ⟨s, hsv⟩ : ∃ s, s = x.sign := ⟨_, rfl⟩
   obtain ⟨t, htv⟩ : ∃ s, s = y.sign := ⟨_, rfl⟩
   rw [← hsv] at S1 hs h1
   rw [← htv] at S2 hs h1
   clear hsv htv h
   go_enter func111, ntmps111
   go_wp2_with (first
    | (go_at_call 154; (with_reducible refine S1.out.mono ?_); rintro e w1 ⟨rfl, hw1⟩; subst hw1)
    | (go_at_call 154; (with_reducible refine S2.out.mono ?_); rintro e w1 ⟨rfl, hw1⟩; subst hw1))
   go_ret
   exact ⟨qaT hc.out.symm, Below.refl _ _⟩
def qaS (a b : DyD) : DyD × Int :=
 if a.num = 0 then (b, 0) else if b.num = 0 then (a, 0) else
 if 131080 < max a.e b.e - min a.e b.e then (zD, 4) else
 qbh (a.num * 2 ^ (a.e - min a.e b.e).toNat + b.num * 2 ^ (b.e - min a.e b.e).toNat) (min a.e b.e)
def negS (d : DyD) : DyD := if d.num = 0 then zD else ⟨!d.neg, d.n, d.e⟩
def qdG (a b : DyD) : DyD × Int := qaS a (negS b)
def mulS (a b : DyD) : DyD × Int := qbh (a.num * b.num) (a.e + b.e)
def qbx (a b : DyD) : Int := qdA (a.num * 2 ^ (a.e - min a.e b.e).toNat) (b.num * 2 ^ (b.e - min a.e b.e).toNat)
theorem qmq (a b : DyD) (ha : qad a = true) (hb : qad b = true) : qaS a b = qaS b a := by
 unfold qaS
 by_cases h1 : a.num = 0 <;> by_cases h2 : b.num = 0
 ·rw [if_pos h1, if_pos h2, (qag ha).2.1 h1, (qag hb).2.1 h2]
 ·rw [if_pos h1, if_neg h2, if_pos h1]
 ·rw [if_neg h1, if_pos h2, if_pos h2]
 ·rw [if_neg h1, if_neg h2, if_neg h2, if_neg h1, Int.max_comm, Int.min_comm, Int.add_comm (a.num * _)]
theorem qgt {a b : DyD} (ha : qad a = true) (hb : qad b = true) : qad (qaS a b).1 = true := by
 unfold qaS
 split
 ·exact hb
 ·split
  ·exact ha
  ·split
   ·exact qdF
   ·exact qeF _ _
theorem qem (a b : DyD) : (qaS a b).2 = 0 ∨ qaS a b = (zD, 4) := by
 unfold qaS
 split
 ·exact .inl rfl
 ·split
  ·exact .inl rfl
  ·split
   ·exact .inr rfl
   ·exact qiy _ _
theorem qdm (a b : DyD) : qad (mulS a b).1 = true := qeF _ _
theorem qgD (a b : DyD) : (mulS a b).2 = 0 ∨ mulS a b = (zD, 4) := qiy _ _
theorem negS_num (d : DyD) : (negS d).num = -d.num := by
 unfold negS
 split
 ·rename_i h; rw [h]; rfl
 ·unfold DyD.num
  cases d.neg <;> simp
theorem qnY {d : DyD} (h : qad d = true) : negS d = mkD (-d.num) d.e := by
 unfold negS
 split
 ·rename_i h0
  rw [h0, (qag h).2.1 h0]; rfl
 ·rename_i h0
  have h1 := qcp h
  have h2 := congrArg DyD.n (qhK h)
  refine DyD.ext' ?_ ?_ rfl
  ·show (!d.neg) = decide (-d.num < 0)
   rw [h1, Bool.eq_iff_iff]; simp only [Bool.not_eq_true', decide_eq_false_iff_not, decide_eq_true_eq]; omega
  ·show d.n = qa8 (-d.num).natAbs
   rw [Int.natAbs_neg]; exact h2.symm
theorem qfi {d : DyD} (h : qad d = true) : qad (negS d) = true := by
 by_cases h0 : d.num = 0
 ·unfold negS; rw [if_pos h0]; exact qdF
 ·rw [qnY h]
  obtain ⟨h1, -, h3, h4, h5⟩ := qag h
  exact qhQ (by rw [Int.natAbs_neg]; exact h3 h0) (by rw [Int.natAbs_neg]; exact h1) h4 h5
theorem negS_e {d : DyD} (h : qad d = true) : (negS d).e = d.e := by rw [qnY h]; rfl
theorem qis {a b : DyD} (ha : qad a = true) (hb : qad b = true) : qad (qdG a b).1 = true := qgt ha (qfi hb)
theorem qgV (a b : DyD) : (qdG a b).2 = 0 ∨ qdG a b = (zD, 4) := qem _ _
theorem qdQ {z : Int} (h : 0 < z) (n : Nat) : 0 < z * 2 ^ n := Int.mul_pos h (Int.pow_pos (by omega))
theorem qc0 {z : Int} (h : z < 0) (n : Nat) : z * 2 ^ n < 0 := Int.mul_neg_of_neg_of_pos h (Int.pow_pos (by omega))
theorem qhr {a b : DyD} (h : a.num.sign ≠ b.num.sign ∨ a.num.sign = 0) : qbx a b = (a.num.sign - b.num.sign).sign := by
 unfold qbx
 rcases Int.lt_trichotomy a.num 0 with h1 | h1 | h1 <;> rcases Int.lt_trichotomy b.num 0 with h2 | h2 | h2
 ·rw [Int.sign_eq_neg_one_of_neg h1, Int.sign_eq_neg_one_of_neg h2] at h; omega
 ·rw [h2, Int.zero_mul, qb5 (qc0 h1 _), Int.sign_eq_neg_one_of_neg h1]; rfl
 ·rw [qb5 (Int.lt_trans (qc0 h1 _) (qdQ h2 _)), Int.sign_eq_neg_one_of_neg h1, Int.sign_eq_one_of_pos h2]; rfl
 ·rw [h1, Int.zero_mul, qcd (qc0 h2 _), Int.sign_eq_neg_one_of_neg h2]; rfl
 ·rw [h1, h2, Int.zero_mul, Int.zero_mul]; rfl
 ·rw [h1, Int.zero_mul, qb5 (qdQ h2 _), Int.sign_eq_one_of_pos h2]; rfl
 ·rw [qcd (Int.lt_trans (qc0 h2 _) (qdQ h1 _)), Int.sign_eq_one_of_pos h1, Int.sign_eq_neg_one_of_neg h2]; rfl
 ·rw [h2, Int.zero_mul, qcd (qdQ h1 _), Int.sign_eq_one_of_pos h1]; rfl
 ·rw [Int.sign_eq_one_of_pos h1, Int.sign_eq_one_of_pos h2] at h; omega
theorem qoD {x y p q : Nat} {e f k : Int} (hx : qbs x p) (hy : qbs y q) (hy0 : y ≠ 0) (he : k ≤ e) (hf : k ≤ f) (h : (p : Int) + e < q + f) : x * 2 ^ (e - k).toNat < y * 2 ^ (f - k).toNat := by
 have hq : q ≠ 0 := by rintro rfl; have := hy.1; simp at this; exact hy0 this
 have h1 : x * 2 ^ (e - k).toNat < 2 ^ p * 2 ^ (e - k).toNat := Nat.mul_lt_mul_of_pos_right hx.1 (Nat.pow_pos (by omega))
 have h2 : 2 ^ (q - 1) * 2 ^ (f - k).toNat ≤ y * 2 ^ (f - k).toNat := Nat.mul_le_mul_right _ (hy.2 hq)
 rw [← Nat.pow_add] at h1 h2
 have h3 : 2 ^ (p + (e - k).toNat) ≤ 2 ^ (q - 1 + (f - k).toNat) := Nat.pow_le_pow_right (by omega) (by omega)
 omega
theorem qd8 (z : Int) (n : Nat) (h : 0 ≤ z) : z * 2 ^ n = ((z.natAbs * 2 ^ n : Nat) : Int) := by
 rw [Int.natCast_mul, Int.natCast_pow, Int.natAbs_of_nonneg h]; rfl
theorem qcu (z : Int) (n : Nat) (h : z ≤ 0) : z * 2 ^ n = -((z.natAbs * 2 ^ n : Nat) : Int) := by
 have : z = -(z.natAbs : Int) := by omega
 rw [Int.natCast_mul, Int.natCast_pow]
 conv => lhs; rw [this]
 rw [Int.neg_mul]; rfl
theorem qjA {a b : DyD} {p q : Nat} (h : a.num.sign = b.num.sign) (h0 : a.num ≠ 0) (hp : qbs a.num.natAbs p) (hq : qbs b.num.natAbs q) (hne : (p : Int) + a.e ≠ q + b.e) : qbx a b = a.num.sign * ((p + a.e : Int) - (q + b.e)).sign := by
 unfold qbx
 have hb0 : b.num ≠ 0 := by
  intro e; rw [e] at h; exact h0 (Int.sign_eq_zero_iff_zero.1 h)
 have m1 : min a.e b.e ≤ a.e := Int.min_le_left ..
 have m2 : min a.e b.e ≤ b.e := Int.min_le_right ..
 rcases Int.lt_or_gt_of_ne hne with hlt | hgt
 ·have h1 := qoD hp hq (by omega) m1 m2 hlt
  rw [Int.sign_eq_neg_one_of_neg (show (p + a.e : Int) - (q + b.e) < 0 by omega)]
  rcases Int.lt_trichotomy a.num 0 with h2 | h2 | h2
  ·have h3 : b.num < 0 := by rw [Int.sign_eq_neg_one_of_neg h2] at h; exact Int.sign_eq_neg_one_iff_neg.1 h.symm
   rw [qcu _ _ (Int.le_of_lt h2), qcu _ _ (Int.le_of_lt h3), qcd (by omega), Int.sign_eq_neg_one_of_neg h2]; rfl
  ·exact absurd h2 h0
  ·have h3 : 0 < b.num := by rw [Int.sign_eq_one_of_pos h2] at h; exact Int.sign_eq_one_iff_pos.1 h.symm
   rw [qd8 _ _ (Int.le_of_lt h2), qd8 _ _ (Int.le_of_lt h3), qb5 (by omega), Int.sign_eq_one_of_pos h2]; rfl
 ·have h1 := qoD hq hp (by omega) m2 m1 hgt
  rw [Int.sign_eq_one_of_pos (show 0 < (p + a.e : Int) - (q + b.e) by omega)]
  rcases Int.lt_trichotomy a.num 0 with h2 | h2 | h2
  ·have h3 : b.num < 0 := by rw [Int.sign_eq_neg_one_of_neg h2] at h; exact Int.sign_eq_neg_one_iff_neg.1 h.symm
   rw [qcu _ _ (Int.le_of_lt h2), qcu _ _ (Int.le_of_lt h3), qb5 (by omega), Int.sign_eq_neg_one_of_neg h2]; rfl
  ·exact absurd h2 h0
  ·have h3 : 0 < b.num := by rw [Int.sign_eq_one_of_pos h2] at h; exact Int.sign_eq_one_iff_pos.1 h.symm
   rw [qd8 _ _ (Int.le_of_lt h2), qd8 _ _ (Int.le_of_lt h3), qcd (by omega), Int.sign_eq_one_of_pos h2]; rfl
theorem qfV (x : Int) : qdA x x = 0 := by unfold qdA; rw [if_neg (by omega), if_neg (by omega)]
theorem qlN (x y : Int) : qdA y x = -qdA x y := by
 rcases Int.lt_trichotomy x y with h | h | h
 ·rw [qb5 h, qcd h]; rfl
 ·subst h; rw [qfV]; rfl
 ·rw [qcd h, qb5 h]
theorem qhR (a b : DyD) : qbx b a = -qbx a b := by
 unfold qbx; rw [Int.min_comm, qlN]
def qfk (n b : Nat) : Nat := n / 2 ^ b + (if 2 ^ b < 2 * (n % 2 ^ b) ∨ (2 ^ b = 2 * (n % 2 ^ b) ∧ n / 2 ^ b % 2 = 1) then 1 else 0)
theorem qmH (neg : Bool) (n : Nat) : Ieee.Toward.cut .even neg n 0 = n := by
 unfold Ieee.Toward.cut
 simp [Nat.mod_one]
theorem qlf {n p : Nat} (h : qbs n p) (h0 : n ≠ 0) : p = n.log2 + 1 := by
 have hp : p ≠ 0 := by rintro rfl; have := h.1; simp at this; exact h0 this
 refine h.uniq ⟨Nat.lt_log2_self, fun _ => ?_⟩
 rw [Nat.add_sub_cancel]
 exact Nat.log2_self_le h0
theorem qn2 (neg : Bool) (n b : Nat) : Ieee.Toward.cut .even neg n b = qfk n b := by
 unfold Ieee.Toward.cut qfk
 simp only [Nat.one_shiftLeft]
 have hn : n < 2 ^ (n.log2 + 1) := Nat.lt_log2_self
 by_cases hb : b ≤ n.log2 + 2
 ·rw [Nat.min_eq_left hb]
  congr 1
  by_cases h : 2 ^ b < 2 * (n % 2 ^ b) ∨ (2 ^ b = 2 * (n % 2 ^ b) ∧ n / 2 ^ b % 2 = 1)
  ·rw [if_pos h]
   have : (decide (2 ^ b < 2 * (n % 2 ^ b)) || (2 ^ b == 2 * (n % 2 ^ b) && n / 2 ^ b % 2 == 1)) = true := by
    simpa only [Bool.or_eq_true, decide_eq_true_eq, Bool.and_eq_true, beq_iff_eq] using h
   rw [this]; rfl
  ·rw [if_neg h]
   have : (decide (2 ^ b < 2 * (n % 2 ^ b)) || (2 ^ b == 2 * (n % 2 ^ b) && n / 2 ^ b % 2 == 1)) = false := by
    rw [Bool.eq_false_iff]
    intro e
    exact h (by simpa only [Bool.or_eq_true, decide_eq_true_eq, Bool.and_eq_true, beq_iff_eq] using e)
   rw [this]; rfl
 ·rw [Nat.min_eq_right (by omega)]
  have h1 : 2 ^ (n.log2 + 2) = 2 * 2 ^ (n.log2 + 1) := by rw [Nat.pow_succ 2 (n.log2 + 1)]; omega
  have h2 : 2 ^ (n.log2 + 2) ≤ 2 ^ b := Nat.pow_le_pow_right (by omega) (by omega)
  rw [Nat.div_eq_of_lt (show n < 2 ^ (n.log2 + 2) by omega), Nat.mod_eq_of_lt (show n < 2 ^ (n.log2 + 2) by omega), Nat.div_eq_of_lt (show n < 2 ^ b by omega), Nat.mod_eq_of_lt (show n < 2 ^ b by omega), if_neg (by omega)]
  have : (decide (2 ^ (n.log2 + 2) < 2 * n) || (2 ^ (n.log2 + 2) == 2 * n && 0 % 2 == 1)) = false := by
   simp; omega
  rw [this]; rfl
def qan (p : Nat) (e : Int) : Int := max ((p : Int) - 1 + e - 52) (-1074)
def qaP : Nat := 9218868437227405312
def qbc (n : Nat) (e : Int) (q : Int) : Nat := if q ≤ e then n * 2 ^ (e - q).toNat else qfk n (q - e).toNat
def qaQ (d : DyD) : Nat := Ieee.double.nearest d.neg d.num.natAbs d.e
theorem qnj : Ieee.double.leastPlace = -1074 := by decide
theorem qee : Ieee.double.infRung = qaP := by decide
theorem qmu : Ieee.double.binade = 4503599627370496 := by decide
theorem qe8 (neg : Bool) {n p : Nat} (e : Int) (h0 : n ≠ 0) (hp : qbs n p) :
  Ieee.double.nearest neg n e = Ieee.double.word neg (min ((qan p e + 1074).toNat * 4503599627370496 + qbc n e (qan p e)) qaP) := by
 unfold Ieee.Format.nearest
 rw [if_neg h0]
 simp only [qnj, qee, qmu]
 have h1 : max (e + (n.log2 : Int) - (Ieee.double.fractionBits : Int)) (-1074) = qan p e := by
  unfold qan
  rw [qlf hp h0, show (Ieee.double.fractionBits : Int) = 52 from rfl]
  congr 1; omega
 rw [h1]
 have h2 : Ieee.Toward.cut .even neg (n <<< (e - qan p e).toNat) (qan p e - e).toNat = qbc n e (qan p e) := by
  unfold qbc
  rw [Nat.shiftLeft_eq]
  split
  ·rename_i h
   rw [show (qan p e - e).toNat = 0 by omega, qmH]
  ·rename_i h
   rw [show (e - qan p e).toNat = 0 by omega, Nat.pow_zero, Nat.mul_one, qn2]
 rw [h2, show qan p e - -1074 = qan p e + 1074 by omega]
theorem qgO {d : DyD} {p : Nat} (h0 : d.num ≠ 0) (hp : qbs d.num.natAbs p) : qaQ d = Ieee.double.word d.neg (min ((qan p d.e + 1074).toNat * 4503599627370496 + qbc d.num.natAbs d.e (qan p d.e)) qaP) := qe8 d.neg d.e (by omega) hp
theorem qoA {n b k : Nat} (h : n < 2 ^ (b + k)) : qfk n b ≤ 2 ^ k := by
 unfold qfk
 have h1 : n / 2 ^ b < 2 ^ k := by
  rw [Nat.div_lt_iff_lt_mul (Nat.pow_pos (by omega)), ← Nat.pow_add, Nat.add_comm]; exact h
 split <;> omega
theorem qjt {n p : Nat} (e : Int) (hp : qbs n p) : qbc n e (qan p e) ≤ 9007199254740992 := by
 unfold qbc
 have hl : qan p e = max ((p : Int) - 1 + e - 52) (-1074) := rfl
 split
 ·rename_i h
  have h1 : n * 2 ^ (e - qan p e).toNat < 2 ^ p * 2 ^ (e - qan p e).toNat := Nat.mul_lt_mul_of_pos_right hp.1 (Nat.pow_pos (by omega))
  rw [← Nat.pow_add] at h1
  have h2 : 2 ^ (p + (e - qan p e).toNat) ≤ 2 ^ 53 := Nat.pow_le_pow_right (by omega) (by omega)
  omega
 ·rename_i h
  have h1 : n < 2 ^ ((qan p e - e).toNat + 53) := Nat.lt_of_lt_of_le hp.1 (Nat.pow_le_pow_right (by omega) (by omega))
  exact qoA h1
theorem qi7 {n p : Nat} (e : Int) (h0 : n ≠ 0) (hp : qbs n p) (hq : -1074 < qan p e) : 4503599627370496 ≤ qbc n e (qan p e) := by
 have hl : qan p e = (p : Int) - 1 + e - 52 := by
  have : qan p e = max ((p : Int) - 1 + e - 52) (-1074) := rfl
  omega
 have hp0 : p ≠ 0 := by rintro rfl; have := hp.1; simp at this; exact h0 this
 have h3 := hp.2 hp0
 unfold qbc
 split
 ·rename_i h
  have h1 : 2 ^ (p - 1) * 2 ^ (e - qan p e).toNat ≤ n * 2 ^ (e - qan p e).toNat := Nat.mul_le_mul_right _ h3
  rw [← Nat.pow_add, show p - 1 + (e - qan p e).toNat = 52 by omega] at h1
  exact h1
 ·rename_i h
  have h1 : 2 ^ (p - 1) / 2 ^ (qan p e - e).toNat ≤ n / 2 ^ (qan p e - e).toNat := Nat.div_le_div_right h3
  rw [Nat.pow_div (by omega) (by omega), show p - 1 - (qan p e - e).toNat = 52 by omega] at h1
  unfold qfk
  exact Nat.le_trans h1 (Nat.le_add_right _ _)
theorem qh2 {d : DyD} {p : Nat} (h0 : d.num ≠ 0) (hp : qbs d.num.natAbs p) (h : (1024 : Int) ≤ (p : Int) - 1 + d.e) : qaQ d = Ieee.double.word d.neg qaP := by
 rw [qgO h0 hp]
 have hl : qan p d.e = max ((p : Int) - 1 + d.e - 52) (-1074) := rfl
 have h1 := qi7 d.e (show d.num.natAbs ≠ 0 by omega) hp (by omega)
 congr 1
 apply Nat.min_eq_right
 have h2 : 2046 * 4503599627370496 ≤ (qan p d.e + 1074).toNat * 4503599627370496 := Nat.mul_le_mul_right _ (by omega)
 unfold qaP; omega
def qaG (m : Nat) (q : Int) : Nat := min ((q + 1074).toNat * 4503599627370496 + m) qaP
def SG : Nat := 9223372036854775808
def qdZ (x : Nat) : Nat := x % SG
def qo5 (x : Nat) : Nat := Op.negFloat .f64 x
structure Fin (x : Nat) : Prop where
 sub : ∃ d, floatBits .sub .f64 x x = some d ∧ (FloatKind.f64.format.order d 0 == some .eq) = true
 eq : FloatKind.f64.format.order x x = some .eq
 inf : (FloatKind.f64.format.order x 9218868437227405311 == some .gt) = false
 abs : (FloatKind.f64.format.order (qdZ x) 9218868437227405311 == some .gt) = false
 lt : x < 18446744073709551616
def ONE : Nat := 4607182418800017408
def qar (x : Nat) : Nat := if x / 4503599627370496 % 2048 = 0 then x % 4503599627370496 else x % 4503599627370496 + 4503599627370496
def qbk (x : Nat) : Int := if x / 4503599627370496 % 2048 = 0 then -1074 else (x / 4503599627370496 % 2048 : Nat) - 1075
def qbP (neg : Bool) (m : Nat) : Int := if neg then -(m : Int) else m
section
def qbQ (x : Nat) : Bool := decide (x % 9223372036854775808 < qaP)
theorem qcF {x : Nat} (hx : x < 18446744073709551616) (h : qbQ x = true) : Ieee.double.read x = .number (decide (SG ≤ x)) (qar x) (qbk x) := by
 have h := of_decide_eq_true h
 unfold Ieee.Format.read
 simp only [show Ieee.double.signWeight = 9223372036854775808 from by decide, show Ieee.double.binade = 4503599627370496 from by decide, qee, qnj]
 have hn : (x / 9223372036854775808 % 2 == 1) = decide (SG ≤ x) := by
  rw [Bool.eq_iff_iff, beq_iff_eq, decide_eq_true_eq]; unfold SG; omega
 rw [hn]
 unfold qaP at h
 by_cases h1 : x % 9223372036854775808 < 4503599627370496
 ·rw [if_pos h1]
  have e1 : x / 4503599627370496 % 2048 = 0 := by omega
  unfold qar qbk
  rw [if_pos e1, if_pos e1]
  congr 1; omega
 ·rw [if_neg h1, if_pos (by unfold qaP; omega)]
  have e1 : ¬ x / 4503599627370496 % 2048 = 0 := by omega
  unfold qar qbk
  rw [if_neg e1, if_neg e1]
  congr 1 <;> omega
theorem qew (x : Nat) : qar x < 9007199254740992 := by unfold qar; split <;> omega
theorem qcO {x : Nat} (h : qbQ x = true) : -1074 ≤ qbk x ∧ qbk x ≤ 971 := by
 have h := of_decide_eq_true h
 unfold qaP at h
 unfold qbk; split <;> omega
theorem qlJ {x : Nat} (h : qaP < x % 9223372036854775808) (y : Nat) : Ieee.double.order x y = none := by
 have : ∃ a b, Ieee.double.read x = .nan a b := by
  unfold Ieee.Format.read
  simp only [show Ieee.double.signWeight = 9223372036854775808 from by decide, show Ieee.double.binade = 4503599627370496 from by decide, qee]
  unfold qaP at h ⊢
  rw [if_neg (by omega), if_neg (by omega), if_neg (by omega)]
  exact ⟨_, _, rfl⟩
 obtain ⟨a, b, e⟩ := this
 unfold Ieee.Format.order
 rw [e]; rfl
theorem qjl {x : Nat} (h : x % 9223372036854775808 = qaP) : Ieee.double.read x = .infinity (decide (SG ≤ x) && decide (x / 9223372036854775808 % 2 = 1)) := by
 unfold Ieee.Format.read
 simp only [show Ieee.double.signWeight = 9223372036854775808 from by decide, show Ieee.double.binade = 4503599627370496 from by decide, qee]
 unfold qaP at h ⊢
 rw [if_neg (by omega), if_neg (by omega), if_pos h]
 congr 1
 rw [Bool.eq_iff_iff, beq_iff_eq, Bool.and_eq_true, decide_eq_true_eq, decide_eq_true_eq]; unfold SG; omega
theorem qnr : Ieee.double.read 9218868437227405311 = .number false 9007199254740991 971 := by decide
theorem qh0 : Ieee.double.read 0 = .number false 0 (-1074) := by decide
theorem qdy (neg : Bool) (m u : Nat) : Ieee.signed neg m u = qbP neg m * 2 ^ u := by
 unfold Ieee.signed qbP
 cases neg
 ·simp [Nat.shiftLeft_eq]
 ·simp [Nat.shiftLeft_eq, Int.neg_mul]
theorem qkj {a b : Int} (h : a ≤ b) : (some (compare a b) == some Ordering.gt) = false := by
 have : compare a b ≠ .gt := by
  show compareOfLessAndEq a b ≠ _
  unfold compareOfLessAndEq
  split
  ·simp
  ·rw [if_pos (by omega)]; simp
 cases hc : compare a b
 ·rfl
 ·rfl
 ·exact absurd hc this
theorem qe2 {a b : Int} (h : b ≤ a) : (some (compare a b) == some Ordering.lt) = false := by
 have : compare a b ≠ .lt := by
  show compareOfLessAndEq a b ≠ _
  unfold compareOfLessAndEq
  rw [if_neg (by omega)]
  split <;> simp
 cases hc : compare a b
 ·exact absurd hc this
 ·rfl
 ·rfl
theorem qjL {a b : Int} (h : a < b) : (some (compare a b) == some Ordering.lt) = true := by
 have : compare a b = .lt := by
  show compareOfLessAndEq a b = _
  unfold compareOfLessAndEq
  rw [if_pos h]
 rw [this]; rfl
theorem qhi (a : Int) : (some (compare a a) == some Ordering.eq) = true := by
 have : compare a a = .eq := by
  show compareOfLessAndEq a a = _
  unfold compareOfLessAndEq
  rw [if_neg (by omega), if_pos rfl]
 rw [this]; rfl
section
variable {x : Nat} (hx : x < 18446744073709551616) (h : qbQ x = true)
include hx h
theorem qjc : (Ieee.double.order x x == some .eq) = true := by
 unfold Ieee.Format.order
 rw [qcF hx h]
 exact qhi _
theorem qkN : (Ieee.double.order x 9218868437227405311 == some .gt) = false := by
 unfold Ieee.Format.order
 rw [qcF hx h, qnr]
 have h1 := qcO h
 have h2 := qew x
 refine qkj ?_
 simp only [qdy]
 rw [show (qbk x - min (qbk x) 971).toNat = 0 by omega, Int.pow_zero, Int.mul_one]
 have h3 : (1 : Int) ≤ 2 ^ (971 - min (qbk x) 971).toNat := by
  have := Int.pow_pos (n := 2) (m := (971 - min (qbk x) 971).toNat) (by omega); omega
 have h4 : qbP (decide (SG ≤ x)) (qar x) ≤ 9007199254740991 := by unfold qbP; split <;> omega
 have h5 : (9007199254740991 : Int) * 1 ≤ 9007199254740991 * 2 ^ (971 - min (qbk x) 971).toNat := Int.mul_le_mul_of_nonneg_left h3 (by omega)
 show _ ≤ qbP false 9007199254740991 * _
 rw [show qbP false 9007199254740991 = 9007199254740991 from rfl]
 omega
theorem fin_neg : (Ieee.double.order x 0 == some .lt) = (decide (SG ≤ x) && decide (qar x ≠ 0)) := by
 unfold Ieee.Format.order
 rw [qcF hx h, qh0]
 have h1 := qcO h
 show (some (compare (Ieee.signed (decide (SG ≤ x)) (qar x) (qbk x - min (qbk x) (-1074)).toNat) (Ieee.signed false 0 (-1074 - min (qbk x) (-1074)).toNat)) == some .lt) = _
 simp only [qdy]
 rw [show qbP false 0 = 0 from rfl, Int.zero_mul]
 by_cases hs : SG ≤ x
 ·rw [decide_eq_true hs]
  by_cases hm : qar x = 0
  ·rw [hm, show qbP true 0 = 0 from rfl, Int.zero_mul]
   exact qe2 (Int.le_refl _)
  ·rw [decide_eq_true hm]
   refine qjL (Int.mul_neg_of_neg_of_pos ?_ (Int.pow_pos (by omega)))
   show -(qar x : Int) < 0
   omega
 ·rw [decide_eq_false hs]
  refine qe2 (Int.mul_nonneg ?_ (Int.le_of_lt (Int.pow_pos (by omega))))
  show (0 : Int) ≤ (qar x : Int)
  omega
end
def qa9 (x : Nat) : DyD × Int := if qbQ x then qbh (qbP (decide (SG ≤ x)) (qar x)) (qbk x) else (zD, 5)
theorem qfj (x : Nat) : qad (qa9 x).1 = true := by
 unfold qa9; split
 ·exact qeF _ _
 ·exact qdF
theorem qgU {x : Nat} (h : qbQ x = true) : (qa9 x).2 = 0 := by
 unfold qa9
 rw [if_pos h]
 have h1 := qcO h
 have h2 := qew x
 unfold qbh
 by_cases h0 : qbP (decide (SG ≤ x)) (qar x) = 0
 ·rw [if_pos h0]
 ·rw [if_neg h0]
  have h3 : (qbP (decide (SG ≤ x)) (qar x)).natAbs = qar x := by unfold qbP; split <;> omega
  have h4 := qfI (show qar x ≠ 0 by omega)
  have h5 : tz (qar x) < 53 := h4.lt (show qar x < 2 ^ 53 from h2)
  rw [h3, if_pos]
  refine ⟨?_, by omega, by omega⟩
  have h6 : qar x / 2 ^ tz (qar x) ≤ qar x := Nat.div_le_self _ _
  rw [qeh]
  exact qgp (a := 8) (by omega) (by omega)
end
structure GsD where
 re : DyD
 im : DyD
def zG : GsD := ⟨zD, zD⟩
def gsB (g : GsD) : Bool := qad g.re && qad g.im
theorem qam {g : GsD} : gsB g = true ↔ qad g.re = true ∧ qad g.im = true := by unfold gsB; rw [Bool.and_eq_true]
def qaF (x y : DyD × Int) : GsD × Int := if x.2 = 0 ∧ y.2 = 0 then (⟨x.1, y.1⟩, 0) else (zG, 4)
def qej (a b : GsD) : GsD × Int := qaF (qdG a.re b.re) (qdG a.im b.im)
def twoS (x y : DyD × Int) : DyD × Int := if x.2 = 0 ∧ y.2 = 0 then qaS x.1 y.1 else (zD, 4)
def qbX (g : GsD) : DyD × Int := twoS (mulS g.re g.re) (mulS g.im g.im)
theorem qj {x y : DyD × Int} (hx : qad x.1 = true) (hy : qad y.1 = true) : gsB (qaF x y).1 = true := by
 unfold qaF; split
 ·exact qam.2 ⟨hx, hy⟩
 ·rfl
theorem qn7 {x y : DyD × Int} (hx : qad x.1 = true) (hy : qad y.1 = true) : qad (twoS x y).1 = true := by
 unfold twoS; split
 ·exact qgt hx hy
 ·rfl
theorem qiw {a b : GsD} (ha : gsB a = true) (hb : gsB b = true) : gsB (qej a b).1 = true :=
 qj (qis (qam.1 ha).1 (qam.1 hb).1) (qis (qam.1 ha).2 (qam.1 hb).2)
theorem qgY (g : GsD) : qad (qbX g).1 = true := qn7 (qdm _ _) (qdm _ _)
theorem qeG (x y : DyD × Int) : (qaF x y).2 = 0 ∨ qaF x y = (zG, 4) := by unfold qaF; split; exact .inl rfl; exact .inr rfl
theorem qhg (x y : DyD × Int) : (twoS x y).2 = 0 ∨ twoS x y = (zD, 4) := by unfold twoS; split; exact qem _ _; exact .inr rfl
structure SqD where
 left : DyD
 low : DyD
 e : Int
def sqB (s : SqD) : Bool := qad s.left && (qad s.low && (decide (-4096 ≤ s.e) && decide (s.e ≤ 4096)))
theorem qas {s : SqD} : sqB s = true ↔ qad s.left = true ∧ qad s.low = true ∧ -4096 ≤ s.e ∧ s.e ≤ 4096 := by
 unfold sqB; simp only [Bool.and_eq_true, decide_eq_true_eq]
def ofS (n e : Int) : DyD := (qbh n e).1
def qaM (d : DyD) (n e : Int) : DyD × Int := qaS d (ofS n e)
theorem qoo {n e : Int} (hn : n.natAbs < 4294967296) (h1 : -1000000 ≤ e) (h2 : e ≤ 1000000) : (qbh n e).2 = 0 := by
 unfold qbh
 by_cases h0 : n = 0
 ·rw [if_pos h0]
 ·rw [if_neg h0]
  have h4 := qfI (show n.natAbs ≠ 0 by omega)
  have h5 : tz n.natAbs < 32 := h4.lt (show n.natAbs < 2 ^ 32 from hn)
  rw [if_pos]
  refine ⟨?_, by omega, by omega⟩
  have h6 : n.natAbs / 2 ^ tz n.natAbs ≤ n.natAbs := Nat.div_le_self _ _
  rw [qeh]
  exact qgp (a := 4) (by omega) (by omega)
theorem qou (e : Int) : ofS 2 (e - 1) = ofS 1 e := by
 unfold ofS
 have := qkI 1 (e - 1) 1
 rw [show (1 : Int) * 2 ^ 1 = 2 from rfl] at this
 rw [this, show e - 1 + ((1 : Nat) : Int) = e by omega]
theorem qds {d : DyD} (e : Int) (h : qad d = true) : qaM d 0 e = (d, 0) := by
 unfold qaM ofS
 rw [qcR]
 unfold qaS
 by_cases h0 : d.num = 0
 ·rw [if_pos h0, (qag h).2.1 h0]
 ·rw [if_neg h0, if_pos qoM]
theorem qce {d : DyD} (n e : Int) (h : qad d = true) : qad (qaM d n e).1 = true := qgt h (qeF _ _)
def qaN (s : SqD) : DyD × Int := qaM s.left 1 s.e
def qaZ (s : SqD) : DyD × Int := qaM s.low 1 s.e
def qaA (s : SqD) : Option (List GsD) := if (qaN s).2 = 0 ∧ (qaZ s).2 = 0 then some [⟨s.left, s.low⟩, ⟨(qaN s).1, s.low⟩, ⟨s.left, (qaZ s).1⟩, ⟨(qaN s).1, (qaZ s).1⟩] else none
def qbu (s : SqD) : GsD × Int := qaF (qaM s.left 1 (s.e - 1)) (qaM s.low 1 (s.e - 1))
def qcg (s : SqD) (g : GsD) : Option Bool := if (qaN s).2 = 0 ∧ (qaZ s).2 = 0 then
 some (decide (qbx s.left g.re ≤ 0) && (decide (qbx g.re (qaN s).1 ≤ 0) && (decide (qbx s.low g.im ≤ 0) && decide (qbx g.im (qaZ s).1 ≤ 0)))) else none
def qbp (s : SqD) : Option (List SqD) := if s.e = -4096 then none else if (qbu s).2 = 0 then
 some [⟨s.left, s.low, s.e - 1⟩, ⟨(qbu s).1.re, s.low, s.e - 1⟩, ⟨s.left, (qbu s).1.im, s.e - 1⟩, ⟨(qbu s).1.re, (qbu s).1.im, s.e - 1⟩] else none
def qd0 (c : GsD) : List GsD → DyD → Option DyD
 | [], m => some m
 | g :: l, m => if (qej g c).2 = 0 ∧ (qbX (qej g c).1).2 = 0 then qd0 c l (if 0 < qbx (qbX (qej g c).1).1 m then (qbX (qej g c).1).1 else m) else none
def qbb (n : DyD) (b : Nat) : Bool := decide (0 ≤ qbx (mulS (qa9 b).1 (qa9 b).1).1 n)
def qaO (f : Nat → Bool) : Nat → Nat → Nat → Nat
 | 0, i, _ => i
 | k + 1, i, j => if i < j then (if f ((i + j) / 2) then qaO f k i ((i + j) / 2) else qaO f k ((i + j) / 2 + 1) j) else i
def qbB : Nat := 9218868437227405311
structure BaD where
 re : Nat
 im : Nat
 r : Nat
def qaj (s : SqD) : BaD × Int :=
 match qaA s with
 | none => (⟨0, 0, 0⟩, 4)
 | some l => if (qbu s).2 = 0 then
   (if qbQ (qaQ (qbu s).1.re) && qbQ (qaQ (qbu s).1.im) then
    (match qd0 ⟨(qa9 (qaQ (qbu s).1.re)).1, (qa9 (qaQ (qbu s).1.im)).1⟩ l zD with
    | none => (⟨0, 0, 0⟩, 4)
    | some n => if qbb n qbB then (⟨qaQ (qbu s).1.re, qaQ (qbu s).1.im, qaO (qbb n) 64 0 qbB⟩, 0) else (⟨0, 0, 0⟩, 5))
   else (⟨0, 0, 0⟩, 5))
  else (⟨0, 0, 0⟩, 4)
theorem qoE {s : SqD} (h : sqB s = true) {l : List GsD} (hl : qaA s = some l) : ∀ g ∈ l, gsB g = true := by
 obtain ⟨h1, h2, h3, h4⟩ := qas.1 h
 unfold qaA at hl
 split at hl
 ·cases hl
  have h5 : qad (qaN s).1 = true := qce _ _ h1
  have h6 : qad (qaZ s).1 = true := qce _ _ h2
  intro g hg
  simp only [List.mem_cons, List.not_mem_nil, or_false] at hg
  rcases hg with rfl | rfl | rfl | rfl
  ·exact qam.2 ⟨h1, h2⟩
  ·exact qam.2 ⟨h5, h2⟩
  ·exact qam.2 ⟨h1, h6⟩
  ·exact qam.2 ⟨h5, h6⟩
 ·cases hl
theorem qgu {s : SqD} (h : sqB s = true) : gsB (qbu s).1 = true := qj (qce _ _ (qas.1 h).1) (qce _ _ (qas.1 h).2.1)
theorem qd2 {s : SqD} (h : sqB s = true) {l : List SqD} (hl : qbp s = some l) : l.length = 4 ∧ ∀ q ∈ l, sqB q = true := by
 have hm := qam.1 (qgu h)
 obtain ⟨h1, h2, h3, h4⟩ := qas.1 h
 unfold qbp at hl
 split at hl
 ·cases hl
 ·rename_i hne
  split at hl
  ·cases hl
   refine ⟨rfl, ?_⟩
   intro q hq
   simp only [List.mem_cons, List.not_mem_nil, or_false] at hq
   rcases hq with rfl | rfl | rfl | rfl
   ·exact qas.2 ⟨h1, h2, by show _ ≤ s.e - 1; omega, by show s.e - 1 ≤ _; omega⟩
   ·exact qas.2 ⟨hm.1, h2, by show _ ≤ s.e - 1; omega, by show s.e - 1 ≤ _; omega⟩
   ·exact qas.2 ⟨h1, hm.2, by show _ ≤ s.e - 1; omega, by show s.e - 1 ≤ _; omega⟩
   ·exact qas.2 ⟨hm.1, hm.2, by show _ ≤ s.e - 1; omega, by show s.e - 1 ≤ _; omega⟩
  ·cases hl
inductive TrT where
 | leaf (s : SqD) (d : Nat) (t : Nat)
 | node (s : SqD) (d : Nat) (a b c e : TrT)
namespace TrT
def sq : TrT → SqD
 | leaf s _ _ => s
 | node s _ _ _ _ _ => s
def leaves : TrT → List (SqD × Nat)
 | leaf s _ t => [(s, t)]
 | node _ _ a b c e => a.leaves ++ (b.leaves ++ (c.leaves ++ e.leaves))
def qhb (t : Nat) : UInt8 := if t = 1 then 105 else if t = 2 then 111 else 117
def bytes : TrT → List UInt8
 | leaf _ _ t => [qhb t]
 | node _ _ a b c e => 112 :: (a.bytes ++ (b.bytes ++ (c.bytes ++ e.bytes)))
def size : TrT → Nat
 | leaf _ _ _ => 1
 | node _ _ a b c e => 1 + (a.size + (b.size + (c.size + e.size)))
theorem size_pos : ∀ t : TrT, 0 < t.size
 | leaf _ _ _ => by simp [size]
 | node _ _ _ _ _ _ => by simp [size]; omega
end TrT
structure NdD where
 sq : SqD
 told : Nat
 depth : Nat
 kids : Option (Nat × Nat × Nat × Nat)
def qcD (s : SqD) : Option (SqD × SqD × SqD × SqD) := match qbp s with
 | some [a, b, c, e] => if (qaj a).2 = 0 ∧ (qaj b).2 = 0 ∧ (qaj c).2 = 0 ∧ (qaj e).2 = 0 then some (a, b, c, e) else none
 | _ => none
def qku (L : List NdD) : Nat := (L.map NdD.depth).foldl max 0
def NdD.part (n : NdD) (m : Nat) : NdD := { n with kids := some (m, m + 1, m + 2, m + 3) }
section
def qfq (n : NdD) (s : SqD) (t : Nat) : NdD := ⟨s, t, n.depth + 1, none⟩
def qak (L : List NdD) (k : Nat) (n : NdD) (q : SqD × SqD × SqD × SqD) (t : SqD → Nat) : List NdD := L.set k (n.part L.length) ++ [qfq n q.1 (t q.1), qfq n q.2.1 (t q.2.1), qfq n q.2.2.1 (t q.2.2.1), qfq n q.2.2.2 (t q.2.2.2)]
structure StD where
 L : List NdD
 n : Nat
def qal (S : StD) (k : Nat) : Option (NdD × (SqD × SqD × SqD × SqD)) := match S.L[k]? with
 | none => none
 | some n => if n.kids = none ∧ n.told = 0 ∧ n.depth < 40 ∧ S.n + 3 ≤ 65536 then (qcD n.sq).map fun q => (n, q) else none
def qaH (t : SqD → Nat) (S : StD) (k : Nat) : StD × Bool := match qal S k with
 | none => (S, false)
 | some (n, q) => (⟨qak S.L k n q t, S.n + 3⟩, true)
section
variable {L : List NdD} {k : Nat} {n : NdD} {q : SqD × SqD × SqD × SqD} {t : SqD → Nat}
theorem qat : (qak L k n q t).length = L.length + 4 := by simp [qak]
theorem qaE {j : Nat} (hj : j < L.length) (hk : j ≠ k) : (qak L k n q t)[j]? = L[j]? := by
 unfold qak
 rw [List.getElem?_append_left (by simpa using hj), List.getElem?_set_ne (fun e => hk e.symm)]
theorem qcM (hk : k < L.length) : (qak L k n q t)[k]? = some (n.part L.length) := by
 unfold qak
 rw [List.getElem?_append_left (by simpa using hk), List.getElem?_set_self hk]
theorem qcN : (qak L k n q t)[L.length]? = some (qfq n q.1 (t q.1)) ∧ (qak L k n q t)[L.length + 1]? = some (qfq n q.2.1 (t q.2.1)) ∧ (qak L k n q t)[L.length + 2]? = some (qfq n q.2.2.1 (t q.2.2.1)) ∧ (qak L k n q t)[L.length + 3]? = some (qfq n q.2.2.2 (t q.2.2.2)) := by
 unfold qak
 refine ⟨?_, ?_, ?_, ?_⟩ <;> (rw [List.getElem?_append_right (by simp)]; simp)
end
def qcy (L : List NdD) : Prop := ∀ (k : Nat) (n : NdD) (p q r s : Nat), L[k]? = some n → n.kids = some (p, q, r, s) → (k < p ∧ p < L.length) ∧ (k < q ∧ q < L.length) ∧ (k < r ∧ r < L.length) ∧ (k < s ∧ s < L.length)
theorem qff {L : List NdD} {k j : Nat} {n m : NdD} {q : SqD × SqD × SqD × SqD} {t : SqD → Nat} (hk : k < L.length) (h : (qak L k n q t)[j]? = some m) : (j = k ∧ m = n.part L.length) ∨ (j < L.length ∧ j ≠ k ∧ L[j]? = some m) ∨ (L.length ≤ j ∧ m.kids = none ∧ m.depth = n.depth + 1 ∧ ∃ s, (s = q.1 ∨ s = q.2.1 ∨ s = q.2.2.1 ∨ s = q.2.2.2) ∧ m.sq = s ∧ m.told = t s) := by
 by_cases h1 : j < L.length
 ·by_cases h2 : j = k
  ·subst h2; rw [qcM hk] at h; cases h; exact .inl ⟨rfl, rfl⟩
  ·rw [qaE h1 h2] at h; exact .inr (.inl ⟨h1, h2, h⟩)
 ·have h3 := (List.getElem?_eq_some_iff.1 h).1
  rw [qat] at h3
  obtain ⟨g0, g1, g2, g3⟩ := qcN (L := L) (k := k) (n := n) (q := q) (t := t)
  rcases (show j = L.length ∨ j = L.length + 1 ∨ j = L.length + 2 ∨ j = L.length + 3 by omega) with rfl | rfl | rfl | rfl
  ·rw [g0] at h; cases h; exact .inr (.inr ⟨by omega, rfl, rfl, _, .inl rfl, rfl, rfl⟩)
  ·rw [g1] at h; cases h; exact .inr (.inr ⟨by omega, rfl, rfl, _, .inr (.inl rfl), rfl, rfl⟩)
  ·rw [g2] at h; cases h; exact .inr (.inr ⟨by omega, rfl, rfl, _, .inr (.inr (.inl rfl)), rfl, rfl⟩)
  ·rw [g3] at h; cases h; exact .inr (.inr ⟨by omega, rfl, rfl, _, .inr (.inr (.inr rfl)), rfl, rfl⟩)
theorem qcy.grown {L : List NdD} (h : qcy L) {k : Nat} {n : NdD} (hk : L[k]? = some n) (q : SqD × SqD × SqD × SqD) (t : SqD → Nat) : qcy (qak L k n q t) := by
 have hl := (List.getElem?_eq_some_iff.1 hk).1
 intro j m a b c d hj hm
 rw [qat]
 rcases qff hl hj with ⟨rfl, rfl⟩ | ⟨h1, h2, h3⟩ | ⟨h1, h2, h3⟩
 ·cases hm; omega
 ·have := h j m a b c d h3 hm; omega
 ·rw [h2] at hm; cases hm
inductive qbf (L : List NdD) : Nat → TrT → List Nat → Prop
 | leaf (k : Nat) (n : NdD) : L[k]? = some n → n.kids = none → qbf L k (.leaf n.sq n.depth n.told) [k]
 | node (k : Nat) (n : NdD) (p q r s : Nat) (a b c e : TrT) (P Q R S : List Nat) : L[k]? = some n → n.kids = some (p, q, r, s) → qbf L p a P → qbf L q b Q → qbf L r c R → qbf L s e S → qbf L k (.node n.sq n.depth a b c e) (k :: (P ++ (Q ++ (R ++ S))))
theorem qbf.size {L : List NdD} {k : Nat} {t : TrT} {P : List Nat} (h : qbf L k t P) : P.length = t.size := by
 induction h with
 | leaf k n h1 h2 => rfl
 | node k n p q r s a b c e P Q R S h1 h2 _ _ _ _ i1 i2 i3 i4 => simp [TrT.size, i1, i2, i3, i4]; omega
theorem qbf.mono {L M : List NdD} {k : Nat} {t : TrT} {P : List Nat} (h : qbf L k t P) (hm : ∀ j ∈ P, M[j]? = L[j]?) : qbf M k t P := by
 induction h with
 | leaf k n h1 h2 => exact .leaf k n ((hm k (by simp)).trans h1) h2
 | node k n p q r s a b c e P Q R S h1 h2 _ _ _ _ i1 i2 i3 i4 =>
  exact .node k n p q r s a b c e P Q R S ((hm k (by simp)).trans h1) h2 (i1 fun j hj => hm j (by simp [hj])) (i2 fun j hj => hm j (by simp [hj])) (i3 fun j hj => hm j (by simp [hj])) (i4 fun j hj => hm j (by simp [hj]))
theorem qbf.lt {L : List NdD} {k : Nat} {t : TrT} {P : List Nat} (h : qbf L k t P) : ∀ j ∈ P, j < L.length := by
 induction h with
 | leaf k n h1 h2 => intro j hj; simp at hj; subst hj; exact (List.getElem?_eq_some_iff.1 h1).1
 | node k n p q r s a b c e P Q R S h1 h2 _ _ _ _ i1 i2 i3 i4 =>
  intro j hj
  simp only [List.mem_cons, List.mem_append] at hj
  rcases hj with rfl | hj | hj | hj | hj
  ·exact (List.getElem?_eq_some_iff.1 h1).1
  ·exact i1 j hj
  ·exact i2 j hj
  ·exact i3 j hj
  ·exact i4 j hj
theorem qbf.grown {L : List NdD} {x : Nat} {m : NdD} (hx : L[x]? = some m) (hm : m.kids = none) (sq : SqD × SqD × SqD × SqD) (t : SqD → Nat) {k : Nat} {T : TrT} {P : List Nat} (h : qbf L k T P) (hn : P.Nodup) (hmem : x ∈ P) :
  ∃ T' P', qbf (qak L x m sq t) k T' P' ∧ P'.Perm (P ++ [L.length, L.length + 1, L.length + 2, L.length + 3]) := by
 have hl := (List.getElem?_eq_some_iff.1 hx).1
 have keep : ∀ {k : Nat} {T : TrT} {P : List Nat}, qbf L k T P → x ∉ P → qbf (qak L x m sq t) k T P := fun h hne => h.mono fun j hj => qaE (h.lt j hj) (fun e => hne (e ▸ hj))
 induction h with
 | leaf k n h1 h2 =>
  simp at hmem; subst hmem
  have hnm : n = m := Option.some.inj (h1.symm.trans hx)
  subst hnm
  obtain ⟨g0, g1, g2, g3⟩ := qcN (L := L) (k := x) (n := n) (q := sq) (t := t)
  refine ⟨_, _, .node x (n.part L.length) L.length (L.length + 1) (L.length + 2) (L.length + 3) _ _ _ _ _ _ _ _ (qcM hl) rfl (.leaf _ _ g0 rfl) (.leaf _ _ g1 rfl) (.leaf _ _ g2 rfl) (.leaf _ _ g3 rfl), ?_⟩
  exact List.Perm.refl _
 | node k n p q r s a b c e P Q R S h1 h2 k1 k2 k3 k4 i1 i2 i3 i4 =>
  have hne : k ≠ x := by
   rintro rfl; rw [h1] at hx; cases hx; rw [h2] at hm; cases hm
  have hk : (qak L x m sq t)[k]? = some n := by
   rw [qaE (List.getElem?_eq_some_iff.1 h1).1 hne]; exact h1
  have hn0 := hn
  rw [List.nodup_cons] at hn
  obtain ⟨-, hn⟩ := hn
  rw [List.nodup_append] at hn
  obtain ⟨nP, hn, dP⟩ := hn
  rw [List.nodup_append] at hn
  obtain ⟨nQ, hn, dQ⟩ := hn
  rw [List.nodup_append] at hn
  obtain ⟨nR, nS, dR⟩ := hn
  simp only [List.mem_cons, List.mem_append] at hmem
  have perm : ∀ (A B X Y : List Nat), Y.Perm (X ++ [L.length, L.length + 1, L.length + 2, L.length + 3]) → (A ++ (Y ++ B)).Perm (A ++ (X ++ B) ++ [L.length, L.length + 1, L.length + 2, L.length + 3]) := by
   intro A B X Y h
   rw [List.append_assoc]
   refine List.Perm.append_left A ?_
   refine (List.Perm.append_right B h).trans ?_
   rw [List.append_assoc, List.append_assoc]
   exact List.Perm.append_left X List.perm_append_comm
  rcases hmem with e0 | h | h | h | h
  ·exact absurd e0.symm hne
  ·obtain ⟨T', P', a1, a2⟩ := i1 nP h
   refine ⟨_, _, .node k n p q r s T' b c e P' Q R S hk h2 a1 (keep k2 fun hq => dP x h x (by simp [hq]) rfl) (keep k3 fun hq => dP x h x (by simp [hq]) rfl) (keep k4 fun hq => dP x h x (by simp [hq]) rfl), ?_⟩
   exact List.Perm.cons k (perm [] (Q ++ (R ++ S)) P P' a2)
  ·obtain ⟨T', P', a1, a2⟩ := i2 nQ h
   refine ⟨_, _, .node k n p q r s a T' c e P P' R S hk h2 (keep k1 fun hq => dP x hq x (by simp [h]) rfl) a1 (keep k3 fun hq => dQ x h x (by simp [hq]) rfl) (keep k4 fun hq => dQ x h x (by simp [hq]) rfl), ?_⟩
   exact List.Perm.cons k (perm P (R ++ S) Q P' a2)
  ·obtain ⟨T', P', a1, a2⟩ := i3 nR h
   refine ⟨_, _, .node k n p q r s a b T' e P Q P' S hk h2 (keep k1 fun hq => dP x hq x (by simp [h]) rfl) (keep k2 fun hq => dQ x hq x (by simp [h]) rfl) a1 (keep k4 fun hq => dR x h x hq rfl), ?_⟩
   have := perm (P ++ Q) S R P' a2
   rw [List.cons_append]
   refine List.Perm.cons k ?_
   simp only [List.append_assoc] at this ⊢
   exact this
  ·obtain ⟨T', P', a1, a2⟩ := i4 nS h
   refine ⟨_, _, .node k n p q r s a b c T' P Q R P' hk h2 (keep k1 fun hq => dP x hq x (by simp [h]) rfl) (keep k2 fun hq => dQ x hq x (by simp [h]) rfl) (keep k3 fun hq => dR x hq x h rfl) a1, ?_⟩
   have := perm (P ++ (Q ++ R)) [] S P' a2
   rw [List.cons_append]
   refine List.Perm.cons k ?_
   simp only [List.append_assoc, List.append_nil] at this ⊢
   exact this
structure Whole (S : StD) : Prop where
 tree : ∃ T P, qbf S.L 0 T P ∧ P.Perm (List.range S.L.length)
 kids : qcy S.L
 count : 4 * S.n = 3 * S.L.length + 1
 some_ : 0 < S.L.length
 few : S.n ≤ 65536
theorem qjU (n : Nat) : List.range n ++ [n, n + 1, n + 2, n + 3] = List.range (n + 4) := by
 rw [List.range_succ (n := n + 3), List.range_succ (n := n + 2), List.range_succ (n := n + 1), List.range_succ]
 simp
theorem qa5 {S : StD} {k : Nat} {n : NdD} {q : SqD × SqD × SqD × SqD} (h : qal S k = some (n, q)) : S.L[k]? = some n ∧ n.kids = none ∧ n.told = 0 ∧ n.depth < 40 ∧ S.n + 3 ≤ 65536 ∧ qcD n.sq = some q := by
 unfold qal at h
 cases hk : S.L[k]? with
 | none => rw [hk] at h; cases h
 | some m =>
  rw [hk] at h
  simp only at h
  split at h
  ·rename_i h1
   cases hp : qcD m.sq with
   | none => rw [hp] at h; cases h
   | some q' =>
    rw [hp] at h
    cases h
    exact ⟨rfl, h1.1, h1.2.1, h1.2.2.1, h1.2.2.2, hp⟩
  ·cases h
theorem Whole.part {S : StD} (h : Whole S) (t : SqD → Nat) (k : Nat) : Whole (qaH t S k).1 := by
 unfold qaH
 cases hs : qal S k with
 | none => exact h
 | some x =>
  obtain ⟨n, q⟩ := x
  obtain ⟨h1, h2, h3, h4, h5, h6⟩ := qa5 hs
  have hl := (List.getElem?_eq_some_iff.1 h1).1
  obtain ⟨T, P, t1, t2⟩ := h.tree
  obtain ⟨T', P', u1, u2⟩ := qbf.grown h1 h2 q t t1 (t2.nodup_iff.2 List.nodup_range) (t2.mem_iff.2 (List.mem_range.2 hl))
  refine ⟨⟨T', P', u1, ?_⟩, h.kids.grown h1 q t, ?_, ?_, h5⟩
  ·show P'.Perm (List.range (qak S.L k n q t).length)
   rw [qat, ← qjU]
   exact u2.trans (List.Perm.append_right _ t2)
  ·show 4 * (S.n + 3) = 3 * (qak S.L k n q t).length + 1
   rw [qat]; have := h.count; omega
  ·show 0 < (qak S.L k n q t).length
   rw [qat]; omega
def qci (L : List NdD) (g : GsD) : List Nat → Nat × Int
 | [] => (0, 271)
 | k :: l => match L[k]? with
  | none => (0, 271)
  | some n => match qcg n.sq g with
   | none => (0, 4)
   | some true => (k, 0)
   | some false => qci L g l
def qez (L : List NdD) (g : GsD) : Nat → Nat → Nat × Int
 | 0, _ => (0, 271)
 | f + 1, k => match L[k]? with
  | none => (0, 271)
  | some n => match n.kids with
   | none => (k, 0)
   | some (p, q, r, s) => if (qci L g [p, q, r, s]).2 = 0 then qez L g f (qci L g [p, q, r, s]).1 else (0, (qci L g [p, q, r, s]).2)
def findD (L : List NdD) (g : GsD) : Nat × Int := if gsB g then (match L[0]? with
 | none => (0, 271)
 | some n => match qcg n.sq g with
  | none => (0, 4)
  | some false => (0, 271)
  | some true => qez L g L.length 0) else (0, 2)
theorem qg3 {L : List NdD} {g : GsD} {y : Nat} : ∀ (f k : Nat), qez L g f k = (y, 0) → ∃ n, L[y]? = some n ∧ n.kids = none
 | 0, k, h => by cases h
 | f + 1, k, h => by
  unfold qez at h
  cases hk : L[k]? with
  | none => rw [hk] at h; cases h
  | some n =>
   rw [hk] at h
   simp only at h
   cases hn : n.kids with
   | none =>
    rw [hn] at h
    obtain rfl : k = y := (Prod.mk.inj h).1
    exact ⟨n, hk, hn⟩
   | some w =>
    obtain ⟨p, q, r, s⟩ := w
    rw [hn] at h
    simp only at h
    split at h
    ·exact qg3 f _ h
    ·rename_i h0; exact absurd (Prod.mk.inj h).2 h0
theorem qeS {L : List NdD} {g : GsD} {y : Nat} (h : findD L g = (y, 0)) : ∃ n, L[y]? = some n ∧ n.kids = none := by
 unfold findD at h
 split at h
 ·cases h0 : L[0]? with
  | none => rw [h0] at h; cases h
  | some n =>
   rw [h0] at h
   simp only at h
   cases hh : qcg n.sq g with
   | none => rw [hh] at h; cases h
   | some b =>
    rw [hh] at h
    cases b with
    | true => exact qg3 _ _ h
    | false => cases h
 ·cases h
end
def qd3 (L : List NdD) : Nat → Nat → List Nat
 | 0, _ => []
 | f + 1, k => match L[k]? with
  | none => []
  | some n => match n.kids with
   | none => [k]
   | some (p, q, r, s) => k :: (qd3 L f p ++ (qd3 L f q ++ (qd3 L f r ++ qd3 L f s)))
def qbi (L : List NdD) (k : Nat) : Bool := match L[k]? with
 | none => false
 | some n => n.kids.isNone
def qa3 (S : StD) : List Nat := (qd3 S.L S.L.length 0).filter (qbi S.L)
theorem qbf.pre {L : List NdD} (hK : qcy L) {k : Nat} {t : TrT} {P : List Nat} (h : qbf L k t P) : ∀ f, L.length - k ≤ f → qd3 L f k = P := by
 induction h with
 | leaf k n h1 h2 =>
  intro f hf
  have := (List.getElem?_eq_some_iff.1 h1).1
  obtain ⟨g, rfl⟩ : ∃ g, f = g + 1 := ⟨f - 1, by omega⟩
  unfold qd3; rw [h1]; simp only [h2]
 | node k n p q r s a b c e P Q R S h1 h2 _ _ _ _ i1 i2 i3 i4 =>
  intro f hf
  have := (List.getElem?_eq_some_iff.1 h1).1
  have hk := hK k n p q r s h1 h2
  obtain ⟨g, rfl⟩ : ∃ g, f = g + 1 := ⟨f - 1, by omega⟩
  unfold qd3; rw [h1]; simp only [h2]
  rw [i1 g (by omega), i2 g (by omega), i3 g (by omega), i4 g (by omega)]
theorem Whole.pre {S : StD} (h : Whole S) : ∃ T, qbf S.L 0 T (qd3 S.L S.L.length 0) ∧ (qd3 S.L S.L.length 0).Perm (List.range S.L.length) := by
 obtain ⟨T, P, h1, h2⟩ := h.tree
 rw [h1.pre h.kids S.L.length (by omega)]
 exact ⟨T, h1, h2⟩
theorem Whole.qgs {S : StD} (h : Whole S) : (qd3 S.L S.L.length 0).length = S.L.length := by
 obtain ⟨T, _, h2⟩ := h.pre
 rw [h2.length_eq, List.length_range]
theorem qe1 {S : StD} (h : Whole S) : ∀ k ∈ qa3 S, k < S.L.length := by
 intro k hk
 obtain ⟨T, h1, _⟩ := h.pre
 exact h1.lt k (List.mem_filter.1 hk).1
theorem qdR {S : StD} (h : Whole S) : (qa3 S).length ≤ S.L.length := by
 rw [← h.qgs]; exact List.length_filter_le _ _
inductive qdu (L : List NdD) : List Nat → List Nat → Prop
 | nil : qdu L [] []
 | cons (k : Nat) (t : TrT) (P ks R : List Nat) : qbf L k t P → qdu L ks R → qdu L (k :: ks) (P ++ R)
theorem qdu.qn8 {L : List NdD} {R : List Nat} (h : qdu L [] R) : R = [] := by cases h; rfl
theorem qdu.next {L : List NdD} {k : Nat} {ks R : List Nat} (h : qdu L (k :: ks) R) : ∃ n R', L[k]? = some n ∧ R = k :: R' ∧ ((n.kids = none ∧ qdu L ks R') ∨ ∃ p q r s, n.kids = some (p, q, r, s) ∧ qdu L (p :: q :: r :: s :: ks) R') := by
 cases h with
 | cons _ t P _ R h1 h2 =>
  cases h1 with
  | leaf _ n a1 a2 => exact ⟨n, R, a1, rfl, .inl ⟨a2, h2⟩⟩
  | node _ n p q r s a b c e P Q X Y a1 a2 b1 b2 b3 b4 =>
   refine ⟨n, P ++ (Q ++ (X ++ (Y ++ R))), a1, by simp, .inr ⟨p, q, r, s, a2, ?_⟩⟩
   exact .cons _ _ _ _ _ b1 (.cons _ _ _ _ _ b2 (.cons _ _ _ _ _ b3 (.cons _ _ _ _ _ b4 h2)))
theorem qdu.le {L : List NdD} {ks R : List Nat} (h : qdu L ks R) : ks.length ≤ R.length := by
 induction h with
 | nil => simp
 | cons k t P ks R h1 _ ih => have := h1.size; have := t.size_pos; simp; omega
theorem qdu.one {L : List NdD} {k : Nat} {t : TrT} {P : List Nat} (h : qbf L k t P) : qdu L [k] P := by
 have := qdu.cons k t P [] [] h .nil
 simpa using this
structure qb8 (S : StD) (ks done R : List Nat) : Prop where
 all : qd3 S.L S.L.length 0 = done ++ R
 pile : qdu S.L ks R
theorem qb8.start {S : StD} (h : Whole S) : qb8 S [0] [] (qd3 S.L S.L.length 0) := by
 obtain ⟨T, h1, _⟩ := h.pre
 exact ⟨rfl, .one h1⟩
theorem qb8.next {S : StD} {k : Nat} {ks done R : List Nat} (h : qb8 S (k :: ks) done R) : ∃ n R', S.L[k]? = some n ∧ R = k :: R' ∧ ((n.kids = none ∧ qb8 S ks (done ++ [k]) R') ∨ ∃ p q r s, n.kids = some (p, q, r, s) ∧ qb8 S (p :: q :: r :: s :: ks) (done ++ [k]) R') := by
 obtain ⟨n, R', h1, h2, h3⟩ := h.pile.next
 have e : qd3 S.L S.L.length 0 = (done ++ [k]) ++ R' := by rw [h.all, h2]; simp
 exact ⟨n, R', h1, h2, h3.imp (fun h3 => ⟨h3.1, e, h3.2⟩) (fun ⟨p, q, r, s, h4, h5⟩ => ⟨p, q, r, s, h4, e, h5⟩)⟩
theorem qb8.end_ {S : StD} {done R : List Nat} (h : qb8 S [] done R) : done.filter (qbi S.L) = qa3 S ∧ R = [] := by
 have h1 := h.pile.qn8
 subst h1
 refine ⟨?_, rfl⟩
 unfold qa3; rw [h.all]; simp
theorem qb8.leaf {S : StD} {k : Nat} {done R : List Nat} {n : NdD} (h : qd3 S.L S.L.length 0 = (done ++ [k]) ++ R) (hk : S.L[k]? = some n) (hn : n.kids = none) : (done ++ [k]).filter (qbi S.L) = done.filter (qbi S.L) ++ [k] ∧ ∃ t, qa3 S = done.filter (qbi S.L) ++ k :: t := by
 have hb : qbi S.L k = true := by unfold qbi; rw [hk]; simp [hn]
 refine ⟨by rw [List.filter_append]; simp [hb], R.filter (qbi S.L), ?_⟩
 unfold qa3; rw [h, List.filter_append, List.filter_append]; simp [hb]
theorem qb8.node {S : StD} {k : Nat} {done : List Nat} {n : NdD} (hk : S.L[k]? = some n) (hn : n.kids.isSome = true) : (done ++ [k]).filter (qbi S.L) = done.filter (qbi S.L) := by
 have hb : qbi S.L k = false := by unfold qbi; rw [hk]; cases h : n.kids with
  | none => rw [h] at hn; cases hn
  | some x => simp [h]
 rw [List.filter_append]; simp [hb]
theorem qjp (n i : Nat) (h : i < (qdD 256 n).length) : (qdD 256 n)[i]? = some (n / 256 ^ i % 256) := by
 have hd := qcB (B := 256) (by omega) n
 obtain ⟨x, hx⟩ : ∃ x, (qdD 256 n)[i]? = some x := ⟨_, List.getElem?_eq_getElem h⟩
 rw [hx, ← qey _ (by omega) hd.ok i x hx, hd.val]
theorem qoj {n k : Nat} (h : qbs n k) : (qdD 256 n).length = (k + 7) / 8 := by
 have e256 : ∀ m, 256 ^ m = 2 ^ (8 * m) := fun m => by rw [Nat.pow_mul]
 apply Nat.le_antisymm
 ·rw [qbH (by omega), e256]
  exact Nat.lt_of_lt_of_le h.1 (Nat.pow_le_pow_right (by omega) (by omega))
 ·by_cases hk : k = 0
  ·subst hk; simp
  ·have h1 := h.2 hk
   have h2 : ¬ (qdD 256 n).length ≤ (k + 7) / 8 - 1 := by
    rw [qbH (by omega), e256]
    have : 2 ^ (8 * ((k + 7) / 8 - 1)) ≤ 2 ^ (k - 1) := Nat.pow_le_pow_right (by omega) (by omega)
    omega
   omega
theorem qeJ {L : List UInt8} {n : Nat} (hl : L.length = (qdD 256 n).length) (h : ∀ i, i < L.length → L[L.length - 1 - i]? = some (UInt8.ofNat (n / 256 ^ i % 256))) : L = qay n := by
 apply List.ext_getElem?
 intro j
 by_cases hj : j < L.length
 ·have h1 := h (L.length - 1 - j) (by omega)
  rw [show L.length - 1 - (L.length - 1 - j) = j by omega] at h1
  rw [h1]
  unfold qay
  rw [List.getElem?_map, List.getElem?_reverse (by omega), ← hl, qjp n _ (by omega)]
  rfl
 ·rw [List.getElem?_eq_none (by omega), List.getElem?_eq_none (by rw [qaR]; omega)]
theorem qnL (q : Nat) : 4294967296 ^ q = 2 ^ (32 * q) := by rw [Nat.pow_mul]
theorem qje (q : Nat) : 256 ^ q = 2 ^ (8 * q) := by rw [Nat.pow_mul]
theorem qhl {D : List Nat} {n i d : Nat} (hD : ∀ x ∈ D, x < 4294967296) (hv : qac 4294967296 D = n) (hd : D[i / 4]? = some d) : d / 2 ^ (8 * (i % 4)) % 256 = n / 256 ^ i % 256 := by
 have h1 := qey D (by omega) hD (i / 4) d hd
 rw [hv] at h1
 rw [← h1, qnL, qje]
 have e : 4294967296 = 2 ^ (8 * (i % 4)) * 2 ^ (32 - 8 * (i % 4)) := by
  rw [← Nat.pow_add, show 8 * (i % 4) + (32 - 8 * (i % 4)) = 32 by omega]
 have h2 : n / 2 ^ (32 * (i / 4)) % 4294967296 / 2 ^ (8 * (i % 4)) = n / 2 ^ (32 * (i / 4)) / 2 ^ (8 * (i % 4)) % 2 ^ (32 - 8 * (i % 4)) := by
  rw [e, Nat.mod_mul_right_div_self]
 rw [h2, Nat.div_div_eq_div_mul, ← Nat.pow_add, show 32 * (i / 4) + 8 * (i % 4) = 8 * i by omega]
 have h3 : 2 ^ (32 - 8 * (i % 4)) = 256 * 2 ^ (24 - 8 * (i % 4)) := by
  rw [show 32 - 8 * (i % 4) = 8 + (24 - 8 * (i % 4)) by omega, Nat.pow_add]
 rw [h3, Nat.mod_mul_right_mod]
theorem qkD {D : List Nat} {V k d : Nat} (hD : ∀ x ∈ D, x < 4294967296) (hv : qac 4294967296 D = 256 ^ (k + 1) * V) (hd : D[k / 4]? = some d) (c : Nat) (hc : c < 256) : d ||| (c * 2 ^ (8 * (k % 4))) = d + c * 2 ^ (8 * (k % 4)) ∧ d + c * 2 ^ (8 * (k % 4)) < 4294967296 := by
 have h1 := qey D (by omega) hD (k / 4) d hd
 rw [hv, qnL, qje] at h1
 have e1 : 2 ^ (8 * (k + 1)) = 2 ^ (32 * (k / 4)) * 2 ^ (8 * (k % 4 + 1)) := by
  rw [← Nat.pow_add]; congr 1; omega
 rw [e1, Nat.mul_assoc, Nat.mul_div_cancel_left _ (Nat.pow_pos (by omega))] at h1
 have e2 : 4294967296 = 2 ^ (8 * (k % 4 + 1)) * 2 ^ (24 - 8 * (k % 4)) := by
  rw [← Nat.pow_add, show 8 * (k % 4 + 1) + (24 - 8 * (k % 4)) = 32 by omega]
 rw [e2, Nat.mul_mod_mul_left] at h1
 obtain ⟨s, hs⟩ : ∃ s, s = V % 2 ^ (24 - 8 * (k % 4)) := ⟨_, rfl⟩
 have hs2 : s < 2 ^ (24 - 8 * (k % 4)) := by rw [hs]; exact Nat.mod_lt _ (Nat.pow_pos (by omega))
 rw [← hs] at h1
 have h3 : c * 2 ^ (8 * (k % 4)) < 2 ^ (8 * (k % 4 + 1)) := by
  rw [show 8 * (k % 4 + 1) = 8 * (k % 4) + 8 by omega, Nat.pow_add, Nat.mul_comm (2 ^ _)]
  exact Nat.mul_lt_mul_of_pos_right hc (Nat.pow_pos (by omega))
 refine ⟨?_, ?_⟩
 ·rw [← h1, Nat.mul_comm (2 ^ _) s, qmK s _ _ h3]
 ·have h4 : 2 ^ (8 * (k % 4 + 1)) * (s + 1) ≤ 2 ^ (8 * (k % 4 + 1)) * 2 ^ (24 - 8 * (k % 4)) := Nat.mul_le_mul_left _ hs2
  rw [← e2, Nat.mul_add, Nat.mul_one, h1] at h4
  omega
theorem qmS {B : Nat} (l : List Nat) (p r d : Nat) (h : l[p]? = some r) : qac B (l.set p (r + d)) = qac B l + B ^ p * d := by
 have h1 : ∀ (l : List Nat) (p : Nat), l[p]? = some r → qac B (l.set p (r + d)) = qac B l + B ^ p * d := by
  intro l
  induction l with
  | nil => intro p h; simp at h
  | cons x l ih =>
   intro p h
   cases p with
   | zero => simp at h; subst h; simp [qac]; omega
   | succ p =>
    have := ih p (by simpa using h)
    simp only [List.set_cons_succ, qac, this, Nat.pow_succ, Nat.mul_add]
    have e : B * (B ^ p * d) = B ^ p * B * d := by ac_rfl
    rw [e, Nat.add_assoc]
 exact h1 l p h
theorem qj3 {D : List Nat} {V k d c : Nat} (hv : qac 4294967296 D = 256 ^ (k + 1) * V) (hd : D[k / 4]? = some d) : qac 4294967296 (D.set (k / 4) (d + c * 2 ^ (8 * (k % 4)))) = 256 ^ k * (256 * V + c) := by
 rw [qmS D _ _ _ hd, hv]
 have e : 4294967296 ^ (k / 4) * (c * 2 ^ (8 * (k % 4))) = 256 ^ k * c := by
  rw [qnL, qje, Nat.mul_comm c, ← Nat.mul_assoc, ← Nat.pow_add]
  congr 2; omega
 rw [e, Nat.pow_succ, Nat.mul_add, Nat.mul_assoc]
theorem qgE (l : List UInt8) (i : Nat) (x : UInt8) (h : l[i]? = some x) : qdb (l.take (i + 1)) = 256 * qdb (l.take i) + x.toNat := by
 unfold qdb
 rw [List.take_add_one, h, Option.toList_some, List.reverse_append, List.reverse_singleton, List.singleton_append, List.map_cons, qac]
 omega
abbrev D8 := Dig 256
def qaU (l : List Nat) : List Value := l.map fun x : Nat => .int .i64 (x : Int)
theorem qf7 (l : List Nat) : (qaU l).length = l.length := by simp [qaU]
theorem qmN (l : List Nat) (k x : Nat) (h : l[k]? = some x) : (qaU l)[k]? = some (.int .i64 (x : Int)) := by simp [qaU, h]
theorem qlE (l : List Nat) (k : Nat) : qaU (l.take k) = (qaU l).take k := by simp [qaU, List.map_take]
theorem qmF (l : List Nat) (k x : Nat) : qaU (l.set k x) = (qaU l).set k (.int .i64 (x : Int)) := by simp [qaU, List.map_set]
theorem qbN (l : List Nat) (x : Nat) : qaU (l ++ [x]) = qaU l ++ [.int .i64 (x : Int)] := by simp [qaU]
theorem qca (x : Int) : ∀ u ∈ [Value.int .i64 x], u.oneCell' = true := by
 intro u hu; rw [List.mem_singleton.1 hu]; rfl
theorem qbS {W : World} {A : Option Addr} {l : List Nat} (h : Row W A (qaU l)) {k x : Nat} (hx : l[k]? = some x) : ∃ b off, A = some ⟨b, off, none⟩ ∧ W.cell? ⟨b, off + k, none⟩ = some (.int .i64 (x : Int)) := by
 have hk := (List.getElem?_eq_some_iff.1 hx).1
 obtain ⟨b, off, hA, hc⟩ := h.at_ (k := k) (by rw [qf7]; exact hk)
 refine ⟨b, off, hA, ?_⟩
 rw [hc]
 have := qmN l k x hx
 rw [List.getElem?_eq_getElem (by rw [qf7]; exact hk)] at this
 exact this
def qbn (W : World) (v : Value) (n k : Nat) : Prop := ∃ A c l, v = .slice A l.length c ∧ l.length ≤ c ∧ l.length ≤ k ∧ Row W A (qaU l) ∧ D8 l n
theorem qbn.kept {W W' : World} {v : Value} {n k : Nat} (h : qbn W v n k) (hk : Kept W W') : qbn W' v n k := by
 obtain ⟨A, c, l, h1, h2, h3, h4, h5⟩ := h
 exact ⟨A, c, l, h1, h2, h3, h4.kept hk, h5⟩
theorem qbn.nil (W : World) (k : Nat) : qbn W (.slice none 0 0) 0 k := ⟨none, 0, [], rfl, by simp, by simp, .inl rfl, Dig.nil⟩
def atN (l : List Nat) (i : Nat) : Nat := l[i]?.getD 0
theorem qgF {l : List Nat} (h : ∀ x ∈ l, x < 256) (i : Nat) : atN l i < 256 := by
 unfold atN
 cases hx : l[i]? with
 | none => simp
 | some x => exact h x (List.mem_of_getElem? hx)
theorem qdV {l : List Nat} {i x : Nat} (h : l[i]? = some x) : atN l i = x := by unfold atN; rw [h]; rfl
theorem qfe {l : List Nat} {i : Nat} (h : l.length ≤ i) : atN l i = 0 := by unfold atN; rw [List.getElem?_eq_none h]; rfl
theorem qcx {B : Nat} (l : List Nat) (i : Nat) : qac B (l.take (i + 1)) = qac B (l.take i) + B ^ i * atN l i := by
 cases hx : l[i]? with
 | none =>
  have := List.getElem?_eq_none_iff.1 hx
  rw [qfe this, List.take_of_length_le this, List.take_of_length_le (by omega)]; simp
 | some x => rw [qdV hx, qao l i x hx]
theorem qdO {D : List Nat} (h : ∀ z ∈ D, z < 256) {x : Nat} (hx : x < 256) : ∀ z ∈ D ++ [x], z < 256 := by
 intro z hz
 rcases List.mem_append.1 hz with hz | hz
 ·exact h z hz
 ·rw [List.mem_singleton.1 hz]; exact hx
theorem qn4 {D : List Nat} {m x S : Nat} (h : qac 256 D + m * 256 ^ D.length = S) :
  qac 256 (D ++ [(m + x) % 256]) + (m + x) / 256 * 256 ^ (D ++ [(m + x) % 256]).length = S + 256 ^ D.length * x := by
 rw [List.length_append, List.length_singleton]; exact qef D m x S h
theorem qgS {D l l' : List Nat} {m i : Nat} (hD : D.length = i) (h : qac 256 D + m * 256 ^ D.length = qac 256 (l.take i) + qac 256 (l'.take i)) :
  qac 256 (D ++ [(m + (atN l i + atN l' i)) % 256]) + (m + (atN l i + atN l' i)) / 256 * 256 ^ (D ++ [(m + (atN l i + atN l' i)) % 256]).length = qac 256 (l.take (i + 1)) + qac 256 (l'.take (i + 1)) := by
 rw [qn4 h, qcx, qcx, hD, Nat.mul_add]; omega
theorem qkM {D l : List Nat} {m i a r : Nat} (hD : D.length = i) (h : qac 256 D + m * 256 ^ D.length = qac 256 (l.take i) * 2 ^ r) (ha : l[i]? = some a) :
  qac 256 (D ++ [(m + a * 2 ^ r) % 256]) + (m + a * 2 ^ r) / 256 * 256 ^ (D ++ [(m + a * 2 ^ r) % 256]).length = qac 256 (l.take (i + 1)) * 2 ^ r := by
 rw [qn4 h, qao l i a ha, hD, Nat.add_mul, Nat.mul_assoc]
theorem qf2 {D l l' : List Nat} {cy i x cz : Nat} (hD : D.length = i) (h : qac 256 D + qac 256 (l'.take i) = qac 256 (l.take i) + cy * 256 ^ D.length) (hx : x + atN l' i + cy = atN l i + cz * 256) :
  qac 256 (D ++ [x]) + qac 256 (l'.take (i + 1)) = qac 256 (l.take (i + 1)) + cz * 256 ^ (D ++ [x]).length := by
 rw [qcx, qcx, qbt, hD, List.length_append, List.length_singleton, hD, Nat.pow_succ]
 rw [hD] at h
 have h3 : 256 ^ i * (x + atN l' i + cy) = 256 ^ i * (atN l i + cz * 256) := by rw [hx]
 rw [Nat.mul_add, Nat.mul_add, Nat.mul_add, Nat.mul_comm _ cy] at h3
 have h4 : cz * (256 ^ i * 256) = 256 ^ i * (cz * 256) := by rw [← Nat.mul_assoc, Nat.mul_comm cz, Nat.mul_assoc]
 omega
theorem qko {D l l' : List Nat} {cy n x y : Nat} (hD : D.length = n) (hok : ∀ z ∈ D, z < 256) (h : qac 256 D + qac 256 (l'.take n) = qac 256 (l.take n) + cy * 256 ^ D.length) (hl : n = l.length) (hx : qac 256 l = x) (hl' : l'.length ≤ n) (hy : qac 256 l' = y) (hxy : y ≤ x) : qac 256 D = x - y := by
 rw [List.take_of_length_le hl', List.take_of_length_le (show l.length ≤ n by omega), hx, hy] at h
 have h2 := qcf D hok
 rcases Nat.eq_zero_or_pos cy with rfl | hc
 ·omega
 ·have : 256 ^ D.length * 1 ≤ cy * 256 ^ D.length := by rw [Nat.mul_comm]; exact Nat.mul_le_mul_right _ hc
  omega
theorem qlZ {R l' : List Nat} {cy p i j a r S : Nat} (hp : p = i + j) (hr : R[p]? = some r) (h : qac 256 R + cy * 256 ^ p = S + 256 ^ i * (a * qac 256 (l'.take j))) :
  qac 256 (R.set p ((cy + (r + a * atN l' j)) % 256)) + (cy + (r + a * atN l' j)) / 256 * 256 ^ (p + 1) = S + 256 ^ i * (a * qac 256 (l'.take (j + 1))) := by
 have h1 := qfa (B := 256) R p r ((cy + (r + a * atN l' j)) % 256) hr
 have h2 := Nat.mod_add_div (cy + (r + a * atN l' j)) 256
 generalize hy : atN l' j = y at *
 have h3 : 256 ^ p * ((cy + (r + a * y)) % 256) + (cy + (r + a * y)) / 256 * 256 ^ (p + 1) = 256 ^ p * (cy + (r + a * y)) := by
  conv => rhs; rw [← h2]
  rw [Nat.mul_add, Nat.pow_succ]
  congr 1
  ac_rfl
 have h4 : 256 ^ p * (cy + (r + a * y)) = cy * 256 ^ p + 256 ^ i * (a * (256 ^ j * y)) + 256 ^ p * r := by
  rw [Nat.mul_add, Nat.mul_add, hp, Nat.pow_add, Nat.mul_comm cy]
  have : 256 ^ i * 256 ^ j * (a * y) = 256 ^ i * (a * (256 ^ j * y)) := by ac_rfl
  omega
 rw [qcx, hy, Nat.mul_add, Nat.mul_add]
 omega
theorem qnX {R : List Nat} {p d : Nat} (h : ∀ z ∈ R, z < 256) (hd : d < 256) : ∀ z ∈ R.set p d, z < 256 := by
 intro z hz
 rcases List.mem_or_eq_of_mem_set hz with hz | rfl
 ·exact h z hz
 ·exact hd
theorem qim {l : List Nat} (hok : ∀ x ∈ l, x < 256) {i r : Nat} (hr : r < 8) (hi : i < l.length) :
  qac 256 l / 2 ^ r / 256 ^ i % 256 = (atN l i + 256 * atN l (i + 1)) / 2 ^ r % 256 := by
 have h1 : qac 256 l / 256 ^ i = (atN l i + 256 * atN l (i + 1)) + 2 ^ r * (256 * (2 ^ (8 - r) * qac 256 (l.drop (i + 2)))) := by
  rw [← qeD l (by omega) hok i (by omega), List.drop_eq_getElem_cons hi, qac]
  have ha : atN l i = l[i] := qdV (List.getElem?_eq_getElem hi)
  have h2 : qac 256 (l.drop (i + 1)) = atN l (i + 1) + 256 * qac 256 (l.drop (i + 2)) := by
   by_cases hi2 : i + 1 < l.length
   ·rw [List.drop_eq_getElem_cons hi2, qac, qdV (List.getElem?_eq_getElem hi2)]
   ·rw [List.drop_eq_nil_of_le (by omega), List.drop_eq_nil_of_le (by omega), qfe (by omega)]
    simp [qac]
  have h3 : 2 ^ r * (256 * (2 ^ (8 - r) * qac 256 (l.drop (i + 2)))) = 256 * (256 * qac 256 (l.drop (i + 2))) := by
   have h4 : 2 ^ r * 2 ^ (8 - r) = 256 := by rw [← Nat.pow_add, show r + (8 - r) = 8 by omega]
   rw [Nat.mul_left_comm, ← Nat.mul_assoc (2 ^ r), h4]
  rw [h2, h3, Nat.mul_add, ha, Nat.add_assoc]
 rw [Nat.div_div_eq_div_mul, Nat.mul_comm (2 ^ r), ← Nat.div_div_eq_div_mul, h1, Nat.add_mul_div_left _ _ (Nat.pow_pos (by omega)), Nat.add_mul_mod_self_left]
theorem qi5 {V i : Nat} {D : List Nat} (hD : D.length = i) (h : qac 256 D = V % 256 ^ i) : qac 256 (D ++ [V / 256 ^ i % 256]) = V % 256 ^ (i + 1) := by
 rw [qbt, h, hD, Nat.pow_succ, Nat.mod_mul]
section
set_option maxHeartbeats 1600000
set_option maxRecDepth 100000
theorem qnU (A : Option Addr) (c : Nat) (l : List Nat) (w : World) (hl : l.length ≤ 1000000000) (hc : l.length ≤ c) (hr : Row w A (qaU l)) (hok : ∀ x ∈ l, x < 256) :
  Calls prog 161 #[.slice A l.length c] w fun e w' => ∃ m, e = .returned (.slice A m c) ∧ m ≤ l.length ∧ D8 (l.take m) (qac 256 l) ∧ w' = w := by
 have HR := qh hr
 have HO := qh hok
 obtain ⟨n, hn⟩ : ∃ n, n = l.length := ⟨_, rfl⟩
 rw [← hn] at hl hc ⊢
 have HN := qh hn
 clear hr hok hn
 go_enter func161, ntmps161
 go_wp2_with fail
 go_loopg [3] n (fun gh v3 wr => v3 = .int .i64 (gh : Int) ∧ gh ≤ n ∧ qac 256 (l.take gh) = qac 256 l ∧ wr = w)
 case atStart => exact ⟨rfl, Nat.le_refl _, by rw [List.take_of_length_le (by have := HN.out; omega)], rfl⟩
 case round =>
  obtain ⟨rfl, hgn, hv, rfl⟩ := hrel
  cases gk with
  | zero =>
   have HV := qh hv
   clear hv
   go_wp2_with fail
   go_ret
   exact ⟨0, qhz (by omega) rfl, by omega, ⟨by simp, by rw [← HV.out], by simp⟩, rfl⟩
  | succ gh =>
   obtain ⟨x, hx⟩ : ∃ x, l[gh]? = some x := ⟨_, List.getElem?_eq_getElem (by have := HN.out; omega)⟩
   obtain ⟨b, off, rfl, hc0⟩ := qbS HR.out hx
   have HX := qh hx
   have HV := qh hv
   have hxb := HO.out x (List.mem_of_getElem? hx)
   clear hv hx
   by_cases h0 : x = 0
   ·subst h0
    go_wp2_with fail
    go_roundg gh
    case measure => omega
    case rel => exact ⟨by go_num, by omega, by rw [← HV.out, qao l gh 0 HX.out]; simp, rfl⟩
   ·have h1 : ¬ (x : Int) = 0 := by omega
    go_wp2_with fail
    go_ret
    exact ⟨gh + 1, qhz (by omega) rfl, by omega, ⟨fun y hy => HO.out y (List.mem_of_mem_take hy), HV.out, by
     rw [List.take_add_one, HX.out]
     simp; omega⟩, rfl⟩
theorem qfz (A : Option Addr) (c : Nat) (l : List Nat) (i : Nat) (w : World) (hi : i ≤ 1000000000) (hr : Row w A (qaU l)) :
  Calls prog 173 #[.slice A l.length c, .int .i64 (i : Int)] w fun e w' => e = .returned (.int .i64 (atN l i : Nat)) ∧ w' = w := by
 by_cases h : i < l.length
 ·obtain ⟨x, hx⟩ : ∃ x, l[i]? = some x := ⟨_, List.getElem?_eq_getElem h⟩
  obtain ⟨b, off, rfl, hc0⟩ := qbS hr hx
  rw [qdV hx]
  have h1 : (i : Int) < l.length := by omega
  clear hr hx
  go_enter func173, ntmps173
  go_wp2_with fail
  go_ret
  exact ⟨rfl, rfl⟩
 ·have h1 : ¬ (i : Int) < l.length := by omega
  rw [qfe (by omega)]
  clear hr
  go_enter func173, ntmps173
  go_wp2_with fail
  go_ret
  exact ⟨rfl, rfl⟩
theorem qdt : (prog.info? 3).map (fun i => (i.zero, i.size, i.bytes)) = some (some (.int .i64 0), 1, 8) := by kernel_rfl
def ofL (s : ByteArray) : List Nat := s.data.toList.reverse.map UInt8.toNat
theorem qe4 (s : ByteArray) : (ofL s).length = s.size := by simp [ofL]
theorem qom (s : ByteArray) (k : Nat) (h : k < s.size) : (ofL s)[s.size - 1 - k]? = some (s[k]'h).toNat := by
 obtain ⟨⟨l⟩⟩ := s
 have h' : k < l.length := h
 show (l.reverse.map UInt8.toNat)[l.length - 1 - k]? = _
 rw [List.getElem?_map, List.getElem?_reverse (by omega), show l.length - 1 - (l.length - 1 - k) = k by omega, List.getElem?_eq_getElem h']
 rfl
theorem qk2 {s : ByteArray} (h : s.data.toList.head? ≠ some 0) : D8 (ofL s) (qfl s) := qhx h
theorem qkR (s : ByteArray) (w : World) (hs : s.size ≤ 1000000) :
  Calls prog 124 #[.string s] w fun e w' => ∃ v, e = .returned v ∧ Own w' w.heap.size 1 v s.size (qaU (ofL s)) ∧ Kept w w' := by
 obtain ⟨i0, hi, hi0, hi1, hi2⟩ := info_parts qdt
 obtain ⟨n, hn⟩ : ∃ n, n = s.size := ⟨_, rfl⟩
 have HN := qh hn
 clear hn
 go_enter func124, ntmps124
 go_wp2_with fail
 go_loopg [3, 4] n (fun gh v3 v4 wr => ∃ j : Nat, j + gh = n ∧ v4 = .int .i64 ((gh : Int) - 1) ∧ Own wr w.heap.size 1 v3 j (qaU ((ofL s).take j)) ∧ Kept w wr)
 case atStart => exact ⟨0, by omega, by rw [HN.out], by simpa [qaU] using Own.nil w w.heap.size 1, Below.refl _ _⟩
 case round =>
  obtain ⟨j, hj, rfl, hown, hk⟩ := hrel
  have HO := qh hown
  have HK := qh hk
  have hnb : n ≤ 1000000 := by rw [HN.out]; exact hs
  clear hown hk
  cases gk with
  | zero =>
   obtain rfl : j = n := by omega
   go_wp2_with fail
   go_ret
   exact ⟨_, rfl, by have := HO.out; rw [List.take_of_length_le (by rw [qe4]; have := HN.out; omega)] at this; rw [← HN.out]; exact this, HK.out⟩
  | succ gh =>
   have hlt : gh < s.size := by have := HN.out; omega
   have hltI : (gh : Int) < s.size := by have := HN.out; omega
   have hg0 : ((gh : Int) + 1 - 1) = gh := by omega
   have hx := qom s gh hlt
   obtain ⟨x, hxx⟩ : ∃ x, s[gh]'hlt = x := ⟨_, rfl⟩
   rw [hxx] at hx
   have hxb := x.toNat_lt
   have hw : IntKind.i64.wrap (x.toNat : Int) = (x.toNat : Int) := IntWalk.i64_in _ (by omega)
   have HX := qh hx
   clear hx
   go_wp2_with (at_builtin; refine qap _ rfl _ _ 207 rfl w.heap.size 3 i0 (.int .i64 0) 1 8 underlying207 hi hi0 hi1 hi2 rfl (by decide) _ j _ rfl (HO.out.alloc _) (some ⟨wr.heap.size, 0, none⟩) 1 1 [.int .i64 (x.toNat : Int)] rfl rfl (Row.qbA _ _ _ _ _ _ rfl rfl) (qca _) ?_ ?_ ?_ ?_)
   ·unfold maxLen; omega
   ·omega
   ·have := HK.out.size; simp; omega
   ·intro v3 w3 hown3 hg3 hat3
    have HO3 := qh hown3
    have HK3 := qh (qa6 (HK.out.alloc (HK.out.size) _) (HO.out.alloc _) (Nat.le_refl _) (by have := HK.out.size; simp; omega) hg3)
    clear hown3 hg3 hat3 HO HK
    go_wp2_with fail
    go_roundg gh
    case measure => omega
    case rel => exact ⟨j + 1, by omega, by go_num, by
     rw [List.take_add_one, show (ofL s)[j]? = some x.toNat by rw [← HX.out]; congr 1; have := HN.out; omega, Option.toList_some, qbN]
     exact HO3.out, HK3.out⟩
end
section
set_option maxHeartbeats 1600000
set_option maxRecDepth 100000
theorem qnF (A A' : Option Addr) (c c' : Nat) (l l' : List Nat) (x y : Nat) (w : World) (hl : l.length ≤ 1000000000) (hl' : l'.length ≤ 1000000000) (hr : Row w A (qaU l)) (hr' : Row w A' (qaU l')) (hd : D8 l x) (hd' : D8 l' y) :
  Calls prog 126 #[.slice A l.length c, .slice A' l'.length c'] w fun e w' => e = .returned (.int .i64 (qbD x y)) ∧ ∃ m, w' = w.drewN m := by
 have HR := qh hr
 have HR' := qh hr'
 have HD := qh hd
 have HD' := qh hd'
 clear hr hr' hd hd'
 rcases Nat.lt_trichotomy l.length l'.length with h | h | h
 ·have HL := qh (HD.out.qdq HD'.out (by omega) h)
  have h1 : ¬ (l.length : Int) = l'.length := by omega
  have h2 : (l.length : Int) < l'.length := by omega
  go_enter func126, ntmps126
  go_wp2_with fail
  go_ret
  exact ⟨qaT (qcv HL.out).symm, 0, rfl⟩
 ·obtain ⟨n, hn⟩ : ∃ n, n = l.length := ⟨_, rfl⟩
  rw [← h, ← hn]
  have HN := qh (And.intro hn (hn.trans h))
  rw [← hn] at hl
  clear h hl' hn
  go_enter func126, ntmps126
  go_wp2_with fail
  go_loopg [5] n (fun gh v5 wr => v5 = .int .i64 ((gh : Int) - 1) ∧ gh ≤ n ∧ l.drop gh = l'.drop gh ∧ ∃ m, wr = w.drewN m)
  case atStart => exact ⟨by go_num, Nat.le_refl _, by rw [List.drop_eq_nil_of_le (by have := HN.out.1; omega), List.drop_eq_nil_of_le (by have := HN.out.2; omega)], 0, rfl⟩
  case round =>
   obtain ⟨rfl, hgn, hv, m, rfl⟩ := hrel
   cases gk with
   | zero =>
    have HV := qh (show x = y by rw [← HD.out.val, ← HD'.out.val]; simpa using congrArg (qac 256) hv)
    clear hv
    go_wp2_with fail
    go_ret
    exact ⟨qaT (by rw [HV.out, qd7]), m, rfl⟩
   | succ gh =>
    obtain ⟨a, ha⟩ : ∃ x, l[gh]? = some x := ⟨_, List.getElem?_eq_getElem (by have := HN.out.1; omega)⟩
    obtain ⟨b, hb⟩ : ∃ x, l'[gh]? = some x := ⟨_, List.getElem?_eq_getElem (by have := HN.out.2; omega)⟩
    obtain ⟨ba, oa, rfl, ca⟩ := qbS HR.out ha
    obtain ⟨bb, ob, rfl, cb⟩ := qbS HR'.out hb
    have HA := qh (And.intro ha hb)
    have HV := qh hv
    have hab := HD.out.ok a (List.mem_of_getElem? ha)
    have hbb := HD'.out.ok b (List.mem_of_getElem? hb)
    have hg1 : ((gh : Int) + 1 - 1) = gh := by omega
    have hg2 : (0 : Int) ≤ gh := by omega
    have hg3 : (gh : Int) < n := by omega
    clear hv ha hb
    by_cases h0 : a = b
    ·subst h0
     go_wp2_with fail
     go_quiet (fail)
     go_wp2_with fail
     go_roundg gh
     case measure => omega
     case rel => exact ⟨by go_num, by omega, by rw [List.drop_eq_getElem_cons (by have := HN.out.1; omega), List.drop_eq_getElem_cons (show gh < l'.length by have := HN.out.2; omega), HV.out]; congr 1; have e1 := HA.out.1; have e2 := HA.out.2; rw [List.getElem?_eq_getElem (by have := HN.out.1; omega)] at e1; rw [List.getElem?_eq_getElem (by have := HN.out.2; omega)] at e2; rw [Option.some.inj e1, Option.some.inj e2], _, rfl⟩
    ·have h1 : ¬ (a : Int) = b := by omega
     by_cases h2 : a < b
     ·have h3 : (a : Int) < b := by omega
      have HL := qh (show x < y by rw [← HD.out.val, ← HD'.out.val]; exact qcc HD.out.ok gh a b (HN.out.1.symm.trans HN.out.2) HA.out.1 HA.out.2 HV.out h2)
      go_wp2_with fail
      go_quiet (fail)
      go_wp2_with fail
      go_quiet (fail)
      go_wp2_with fail
      go_ret
      exact ⟨qaT (qcv HL.out).symm, _, by rw [World.drewN_drewN, World.drewN_drewN]⟩
     ·have h3 : ¬ (a : Int) < b := by omega
      have HL := qh (show y < x by rw [← HD.out.val, ← HD'.out.val]; exact qcc HD'.out.ok gh b a (HN.out.2.symm.trans HN.out.1) HA.out.2 HA.out.1 HV.out.symm (by omega))
      go_wp2_with fail
      go_quiet (fail)
      go_wp2_with fail
      go_quiet (fail)
      go_wp2_with fail
      go_ret
      exact ⟨qaT (qdi HL.out).symm, _, by rw [World.drewN_drewN, World.drewN_drewN]⟩
 ·have HL := qh (HD'.out.qdq HD.out (by omega) h)
  have h1 : ¬ (l.length : Int) = l'.length := by omega
  have h2 : ¬ (l.length : Int) < l'.length := by omega
  go_enter func126, ntmps126
  go_wp2_with fail
  go_ret
  exact ⟨qaT (qdi HL.out).symm, 0, rfl⟩
theorem qlx {x k : Nat} (h : qbs x (k + 1)) : x ≠ 0 ∧ qbs (x / 2) k := by
 have h2 := h.2 (by omega)
 rw [Nat.add_sub_cancel] at h2
 have hp : 0 < 2 ^ k := Nat.pow_pos (by omega)
 refine ⟨by omega, by have := h.1; rw [Nat.pow_succ] at this; omega, fun hk => ?_⟩
 obtain ⟨j, rfl⟩ : ∃ j, k = j + 1 := ⟨k - 1, by omega⟩
 rw [Nat.pow_succ] at h2
 rw [Nat.add_sub_cancel]; omega
theorem qle (A : Option Addr) (c : Nat) (l : List Nat) (x : Nat) (w : World) (hl : l.length ≤ 100000000) (hr : Row w A (qaU l)) (hd : D8 l x) :
  Calls prog 160 #[.slice A l.length c] w fun e w' => ∃ k, e = .returned (.int .i64 (k : Nat)) ∧ qbs x k ∧ k ≤ 8 * l.length ∧ w' = w := by
 by_cases h0 : l.length = 0
 ·have h1 : l = [] := List.eq_nil_of_length_eq_zero h0
  subst h1
  have h2 := (hd.qcb (by omega)).1 rfl
  subst h2
  clear hr hd
  go_enter func160, ntmps160
  go_wp2_with fail
  go_ret
  exact ⟨0, rfl, qeI, by omega, rfl⟩
 ·obtain ⟨m, t, rfl⟩ : ∃ m t, l = m ++ [t] := ⟨l.dropLast, l.getLast (by intro h; simp [h] at h0), (List.dropLast_concat_getLast (by intro h; simp [h] at h0)).symm⟩
  have ht0 : t ≠ 0 := fun e => hd.top (by simp [e])
  have htb : t < 256 := hd.ok t (by simp)
  obtain ⟨b, off, rfl, c0⟩ := qbS hr (k := m.length) (x := t) (by simp)
  obtain ⟨n, hn⟩ : ∃ n, n = m.length := ⟨_, rfl⟩
  have hlen : (m ++ [t]).length = n + 1 := by simp [hn]
  rw [hlen] at hl ⊢
  obtain ⟨K, hK⟩ : ∃ K, qbs t K := ⟨_, qf3 t (by omega)⟩
  have hK8 : K ≤ 8 := by
   rcases Nat.lt_or_ge 8 K with h | h
   ·have h1 := hK.2 (by omega)
    have h2 : 2 ^ 8 ≤ 2 ^ (K - 1) := Nat.pow_le_pow_right (by omega) (by omega)
    omega
   ·exact h
  have HF := qh (show qbs x (8 * n + K) by
   rw [← hd.val, qbt, show (256 : Nat) = 2 ^ 8 from rfl, ← Nat.pow_mul, ← hn]
   refine qiJ ?_ ht0 hK
   have := qcf (B := 256) m (fun z hz => hd.ok z (by simp [hz]))
   rw [show (256 : Nat) = 2 ^ 8 from rfl, ← Nat.pow_mul, ← hn] at this
   exact this)
  rw [← hn] at c0
  have HKK := qh hK
  clear hr hd hlen hn h0 ht0 hK
  go_enter func160, ntmps160
  go_wp2_with fail
  go_loopg [3, 4] K (fun gh v3 v4 wr => ∃ d y : Nat, d + gh = K ∧ v3 = .int .i64 ((8 * n + d : Nat) : Int) ∧ v4 = .int .i64 (y : Int) ∧ y < 256 ∧ qbs y gh ∧ wr = w)
  case atStart => exact ⟨0, t, by omega, by go_num, rfl, htb, HKK.out, rfl⟩
  case round =>
   obtain ⟨d, y, hdg, rfl, rfl, hyb, hy, rfl⟩ := hrel
   cases gk with
   | zero =>
    have hy0 : y = 0 := by have := hy.1; simpa using this
    subst hy0
    obtain rfl : d = K := by omega
    clear hy
    go_wp2_with fail
    go_ret
    exact ⟨8 * n + d, rfl, HF.out, by omega, rfl⟩
   | succ gh =>
    obtain ⟨hy0, hy1⟩ := qlx hy
    have HY := qh hy1
    have hyp : (0 : Int) < y := by omega
    clear hy hy1
    go_wp2_with fail
    go_roundg gh
    case measure => omega
    case rel => exact ⟨d + 1, y / 2, by omega, by go_num, by go_num, by omega, HY.out, rfl⟩
theorem qmi {l : List Nat} {x n d : Nat} (h : D8 l x) (hd : l[n / 8]? = some d) : d / 2 ^ (n % 8) % 2 = x / 2 ^ n % 2 := by
 have h1 := qey l (by omega) h.ok (n / 8) d hd
 rw [h.val] at h1
 rw [← h1]
 have e : 256 = 2 ^ (n % 8) * 2 ^ (8 - n % 8) := by rw [← Nat.pow_add, show n % 8 + (8 - n % 8) = 8 by omega]
 have e2 : 2 ^ (8 - n % 8) = 2 * 2 ^ (7 - n % 8) := by rw [show 8 - n % 8 = 7 - n % 8 + 1 by omega, Nat.pow_succ, Nat.mul_comm]
 have h2 : x / 256 ^ (n / 8) % 256 / 2 ^ (n % 8) = x / 256 ^ (n / 8) / 2 ^ (n % 8) % 2 ^ (8 - n % 8) := by
  generalize x / 256 ^ (n / 8) = y
  conv => lhs; rw [e]
  exact Nat.mod_mul_right_div_self ..
 rw [h2, e2, Nat.mod_mul_right_mod, Nat.div_div_eq_div_mul, qje, ← Nat.pow_add, show 8 * (n / 8) + n % 8 = n by omega]
theorem ql4 {x t n : Nat} (h : qch x t) (hn : n < t) : x / 2 ^ n % 2 = 0 := by
 obtain ⟨q, hq⟩ : ∃ q, x = q * 2 ^ t := ⟨_, h.eq⟩
 rw [hq, show t = n + 1 + (t - n - 1) by omega, Nat.pow_add, Nat.pow_succ, show q * (2 ^ n * 2 * 2 ^ (t - n - 1)) = 2 ^ n * (2 * (q * 2 ^ (t - n - 1))) by ac_rfl, Nat.mul_div_cancel_left _ (Nat.pow_pos (by omega))]
 omega
theorem qm7 (A : Option Addr) (c : Nat) (l : List Nat) (x t : Nat) (w : World) (hl : l.length ≤ 100000000) (hr : Row w A (qaU l)) (hd : D8 l x) (ht : qch x t) :
  Calls prog 172 #[.slice A l.length c] w fun e w' => e = .returned (.int .i64 (t : Int)) ∧ w' = w := by
 have HR := qh hr
 have HD := qh hd
 have HT := qh ht
 have hb : t < 8 * l.length := by
  have h1 := hd.lt
  rw [qje] at h1
  exact ht.lt h1
 obtain ⟨n, hn⟩ : ∃ n, n = l.length := ⟨_, rfl⟩
 rw [← hn] at hl hb ⊢
 have HN := qh hn
 clear hr hd ht hn
 go_enter func172, ntmps172
 go_wp2_with fail
 go_loopg [3] t (fun gh v3 wr => ∃ j : Nat, j + gh = t ∧ v3 = .int .i64 (j : Int) ∧ wr = w)
 case atStart => exact ⟨0, by omega, rfl, rfl⟩
 case round =>
  obtain ⟨j, hj, rfl, rfl⟩ := hrel
  have hq : j / 8 < n := by omega
  have hqI : (j : Int) / 8 < n := by omega
  have hq0 : (0 : Int) ≤ (j : Int) / 8 := by omega
  have hq2 : ((j : Int) / 8).toNat = j / 8 := by omega
  have hr0 : (0 : Int) ≤ (j : Int) % 8 := by omega
  have hr1 : (j : Int) % 8 ≤ 64 := by omega
  have hr2 : ((j : Int) % 8).toNat = j % 8 := by omega
  obtain ⟨d, hd⟩ : ∃ x, l[j / 8]? = some x := ⟨_, List.getElem?_eq_getElem (by have := HN.out; omega)⟩
  obtain ⟨b, off, rfl, c0⟩ := qbS HR.out hd
  have hdb := HD.out.ok d (List.mem_of_getElem? hd)
  have hbit := qmi HD.out hd
  have HB := qh hbit
  obtain ⟨y, hy⟩ : ∃ y, y = d / 2 ^ (j % 8) := ⟨_, rfl⟩
  have hyI : (d : Int) / 2 ^ (j % 8) = (y : Int) := by rw [hy]; simp
  have hyb : y < 256 := by rw [hy]; exact Nat.lt_of_le_of_lt (Nat.div_le_self _ _) hdb
  have hand : bits BinOp.and IntKind.i64 (y : Int) 1 = ((y % 2 : Nat) : Int) := and_one y (by omega)
  rw [← hy] at hbit
  clear hd hy
  cases gk with
  | zero =>
   obtain rfl : j = t := by omega
   have h1 : y % 2 = 1 := by rw [hbit]; exact HT.out.2
   rw [h1] at hand
   clear hbit
   go_wp2_with fail
   go_ret
   exact ⟨rfl, rfl⟩
  | succ gh =>
   have h1 : y % 2 = 0 := by rw [hbit]; exact ql4 HT.out (by omega)
   rw [h1] at hand
   clear hbit
   go_wp2_with fail
   go_roundg gh
   case measure => omega
   case rel => exact ⟨j + 1, by omega, by go_num, rfl⟩
end
end Go.Proofs.YtfdnledkcongaaaGreatDoor
