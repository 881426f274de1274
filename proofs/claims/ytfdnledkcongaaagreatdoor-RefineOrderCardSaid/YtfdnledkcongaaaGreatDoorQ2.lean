/- Texts of one claim laid together: WidL, Dyb, Byt, DoP, DoA, DoB, DoC, DoD, DoE, WidM. -/
import Derived.Test.YtfdnledkcongaaaGreatDoorQ1
import Derived.Lib.RabinKarpLaws
set_option linter.all false
namespace Go.Proofs.YtfdnledkcongaaaGreatDoor
open Go.RowKit Go.Proofs.Tryz
def qdA (x y : Int) : Int := if x < y then -1 else if y < x then 1 else 0
theorem qb5 {x y : Int} (h : x < y) : qdA x y = -1 := by unfold qdA; rw [if_pos h]
theorem qcd {x y : Int} (h : y < x) : qdA x y = 1 := by unfold qdA; rw [if_neg (by omega), if_pos h]
theorem qna {x y : Int} (hx : x < 0) (hy : y < 0) : qbD y.natAbs x.natAbs = qdA x y := by
 rcases Int.lt_trichotomy x y with h | h | h
 ·rw [qb5 h, qcv (by omega)]
 ·subst h; rw [qd7]; simp [qdA]
 ·rw [qcd h, qdi (by omega)]
theorem qm6 {x y : Int} (hx : 0 ≤ x) (hy : 0 ≤ y) : qbD x.natAbs y.natAbs = qdA x y := by
 rcases Int.lt_trichotomy x y with h | h | h
 ·rw [qb5 h, qcv (by omega)]
 ·subst h; rw [qd7]; simp [qdA]
 ·rw [qcd h, qdi (by omega)]
set_option maxRecDepth 100000 in
set_option maxHeartbeats 1600000 in
theorem qmP (p r : Nat) (x y : Int) (k j : Nat) (w : World) (hx : qaq w p x k) (hy : qaq w r y j) (hk : k ≤ 100000000) (hj : j ≤ 100000000) :
  Calls prog 111 #[.pointer (some ⟨p, 0, none⟩), .pointer (some ⟨r, 0, none⟩)] w fun e w' => e = .returned (.int .i64 (qdA x y)) ∧ Kept w w' := by
 have S1 := qh (qfO p x k w hx)
 have S2 := qh (qfO r y j w hy)
 obtain ⟨v, hb, A, c, l, rfl, hlc, hl, hr, hdl⟩ := hx
 obtain ⟨v', hb', A', c', l', rfl, hlc', hl', hr', hdl'⟩ := hy
 by_cases hs : x.sign = y.sign
 ·by_cases hn : x < 0
  ·skip
   have hyn : y < 0 := by
    rw [Int.sign_eq_neg_one_of_neg hn] at hs
    exact Int.sign_eq_neg_one_iff_neg.1 hs.symm
   have CL : Hid (∀ W, Kept w W → Calls prog 155 #[.slice A' l'.length c', .slice A l.length c] W fun e w' => e = .returned (.int .i64 (qdA x y)) ∧ Kept W w') := fun W h =>
    (qgZ A' A c' c l' l y.natAbs x.natAbs W (by omega) (by omega) (hr'.kept h) (hr.kept h) hdl' hdl).mono fun e w' ⟨h1, m, h2⟩ => ⟨by rw [h1, qna hn hyn], by rw [h2]; exact qaz (Below.refl _ _) m⟩
   have e0 : decide (x < 0) = true := decide_eq_true hn
   rw [e0] at hb
   rw [← hs] at S2
   have SK : Hid (∀ W, Kept w W → W.cell? ⟨p, 0, none⟩ = some (.bool true) ∧ W.cell? ⟨p, 1, none⟩ = some (.slice A l.length c) ∧ W.cell? ⟨r, 1, none⟩ = some (.slice A' l'.length c')) := fun W h => ⟨(hb.kept h).c0, (hb.kept h).c1, (hb'.kept h).c1⟩
   have HS := qh (SK.out w (Below.refl _ _))
   have c0 := hb.c0
   obtain ⟨s, hsv⟩ : ∃ s, s = x.sign := ⟨_, rfl⟩
   rw [← hsv] at S1 S2
   clear hb hb' hr hr' hdl hdl' e0 hs hsv
   go_enter func111, ntmps111
   go_wp2_with (first
    | (go_at_call 154; (with_reducible refine S1.out.mono ?_); rintro e w1 ⟨rfl, hw1⟩; subst hw1)
    | (go_at_call 154; (with_reducible refine S2.out.mono ?_); rintro e w1 ⟨rfl, hw1⟩; subst hw1))
   refine qcn (fun W => W.cell? ⟨p, 0, none⟩ = some (.bool true) ∧ W.cell? ⟨p, 1, none⟩ = some (.slice A l.length c) ∧ W.cell? ⟨r, 1, none⟩ = some (.slice A' l'.length c')) 9 (by kernel_rfl) ?_ (fun hHeld => ?_)
   ·first | exact HS.out | assumption
   refine wL 0 21 ?_
   refine wL 1 22 ?_
   refine wL 2 23 ?_
   refine wL 3 24 ?_
   refine wL 4 25 ?_
   refine wL 5 26 ?_
   refine wL 6 27 ?_
   refine wL 7 28 ?_
   refine oL 8 fun K hK => ?_
   go_simp
   (refine (CL.out _ ((Below.refl _ _).drew)).mono ?_; rintro e w8 ⟨rfl, hk8⟩; have K8 : Kept w1 w8 := ((Below.refl _ w1).drew).trans hk8; have hS8 := SK.out w8 K8)
   refine hK.out _ _ ?_ (fun hHeld => ?_)
   ·first | exact HS.out | assumption
   clear hK K
   try simp only [Act.put, tdy]
   refine eL fun K hK => ?_
   go_simp
   refine hK.out _ _ ?_
   clear hK K
   try simp only [Act.put, tdy]
   refine dL ?_ _
   go_wp2_with fail
   go_ret
   exact ⟨rfl, K8⟩
  ·skip
   have hyn : 0 ≤ y := by
    rcases Int.lt_or_le y 0 with h | h
    ·rw [Int.sign_eq_neg_one_of_neg h] at hs
     exact absurd (Int.sign_eq_neg_one_iff_neg.1 hs) hn
    ·exact h
   have CL : Hid (∀ W, Kept w W → Calls prog 155 #[.slice A l.length c, .slice A' l'.length c'] W fun e w' => e = .returned (.int .i64 (qdA x y)) ∧ Kept W w') := fun W h =>
    (qgZ A A' c c' l l' x.natAbs y.natAbs W (by omega) (by omega) (hr.kept h) (hr'.kept h) hdl hdl').mono fun e w' ⟨h1, m, h2⟩ => ⟨by rw [h1, qm6 (by omega) hyn], by rw [h2]; exact qaz (Below.refl _ _) m⟩
   have e0 : decide (x < 0) = false := decide_eq_false hn
   rw [e0] at hb
   rw [← hs] at S2
   have SK : Hid (∀ W, Kept w W → W.cell? ⟨p, 0, none⟩ = some (.bool false) ∧ W.cell? ⟨p, 1, none⟩ = some (.slice A l.length c) ∧ W.cell? ⟨r, 1, none⟩ = some (.slice A' l'.length c')) := fun W h => ⟨(hb.kept h).c0, (hb.kept h).c1, (hb'.kept h).c1⟩
   have HS := qh (SK.out w (Below.refl _ _))
   have c0 := hb.c0
   obtain ⟨s, hsv⟩ : ∃ s, s = x.sign := ⟨_, rfl⟩
   rw [← hsv] at S1 S2
   clear hb hb' hr hr' hdl hdl' e0 hs hsv
   go_enter func111, ntmps111
   go_wp2_with (first
    | (go_at_call 154; (with_reducible refine S1.out.mono ?_); rintro e w1 ⟨rfl, hw1⟩; subst hw1)
    | (go_at_call 154; (with_reducible refine S2.out.mono ?_); rintro e w1 ⟨rfl, hw1⟩; subst hw1))
   refine qcn (fun W => W.cell? ⟨p, 0, none⟩ = some (.bool false) ∧ W.cell? ⟨p, 1, none⟩ = some (.slice A l.length c) ∧ W.cell? ⟨r, 1, none⟩ = some (.slice A' l'.length c')) 9 (by kernel_rfl) ?_ (fun hHeld => ?_)
   ·first | exact HS.out | assumption
   refine wL 0 30 ?_
   refine wL 1 31 ?_
   refine wL 2 32 ?_
   refine wL 3 33 ?_
   refine wL 4 34 ?_
   refine wL 5 35 ?_
   refine wL 6 36 ?_
   refine wL 7 37 ?_
   refine oL 8 fun K hK => ?_
   go_simp
   (refine (CL.out _ ((Below.refl _ _).drew)).mono ?_; rintro e w8 ⟨rfl, hk8⟩; have K8 : Kept w1 w8 := ((Below.refl _ w1).drew).trans hk8; have hS8 := SK.out w8 K8)
   refine hK.out _ _ ?_ (fun hHeld => ?_)
   ·first | exact HS.out | assumption
   clear hK K
   try simp only [Act.put, tdy]
   refine eL fun K hK => ?_
   go_simp
   refine hK.out _ _ ?_
   clear hK K
   try simp only [Act.put, tdy]
   refine dL ?_ _
   go_wp2_with fail
   go_ret
   exact ⟨rfl, K8⟩
 ·rcases (show x.sign < y.sign ∨ y.sign < x.sign by omega) with h | h
  ·skip
   clear hb hb' hr hr' hdl hdl'
   have h1 : x.sign < y.sign := by omega
   have hc := qh (show qdA x y = -1 by
    apply qb5
    rcases Int.lt_trichotomy x 0 with a | a | a <;> rcases Int.lt_trichotomy y 0 with b | b | b <;> first | omega | (simp only [Int.sign_eq_neg_one_of_neg, Int.sign_eq_one_of_pos, a, b, Int.sign_zero] at h; omega))
   obtain ⟨s, hsv⟩ : ∃ s, s = x.sign := ⟨_, rfl⟩
   obtain ⟨t, htv⟩ : ∃ s, s = y.sign := ⟨_, rfl⟩
   rw [← hsv] at S1 hs h1
   rw [← htv] at S2 hs h1
   clear hsv htv h
   go_enter func111, ntmps111
   go_wp2_with (first
    | (go_at_call 154; (with_reducible refine S1.out.mono ?_); rintro e w1 ⟨rfl, hw1⟩; subst hw1)
    | (go_at_call 154; (with_reducible refine S2.out.mono ?_); rintro e w1 ⟨rfl, hw1⟩; subst hw1))
   go_ret
   exact ⟨qaT hc.out.symm, Below.refl _ _⟩
  ·skip
   clear hb hb' hr hr' hdl hdl'
   have h1 : ¬ x.sign < y.sign := by omega
   have hc := qh (show qdA x y = 1 by
    apply qcd
    rcases Int.lt_trichotomy x 0 with a | a | a <;> rcases Int.lt_trichotomy y 0 with b | b | b <;> first | omega | (simp only [Int.sign_eq_neg_one_of_neg, Int.sign_eq_one_of_pos, a, b, Int.sign_zero] at h; omega))
   obtain ⟨s, hsv⟩ : ∃ s, s = x.sign := ⟨_, rfl⟩
   obtain ⟨t, htv⟩ : ∃ s, s = y.sign := ⟨_, rfl⟩
   rw [← hsv] at S1 hs h1
   rw [← htv] at S2 hs h1
   clear hsv htv h
   go_enter func111, ntmps111
   go_wp2_with (first
    | (go_at_call 154; (with_reducible refine S1.out.mono ?_); rintro e w1 ⟨rfl, hw1⟩; subst hw1)
    | (go_at_call 154; (with_reducible refine S2.out.mono ?_); rintro e w1 ⟨rfl, hw1⟩; subst hw1))
   go_ret
   exact ⟨qaT hc.out.symm, Below.refl _ _⟩
def qaS (a b : DyD) : DyD × Int :=
 if a.num = 0 then (b, 0) else if b.num = 0 then (a, 0) else
 if 131080 < max a.e b.e - min a.e b.e then (zD, 4) else
 qbh (a.num * 2 ^ (a.e - min a.e b.e).toNat + b.num * 2 ^ (b.e - min a.e b.e).toNat) (min a.e b.e)
def negS (d : DyD) : DyD := if d.num = 0 then zD else ⟨!d.neg, d.n, d.e⟩
def qdG (a b : DyD) : DyD × Int := qaS a (negS b)
def mulS (a b : DyD) : DyD × Int := qbh (a.num * b.num) (a.e + b.e)
def qbx (a b : DyD) : Int := qdA (a.num * 2 ^ (a.e - min a.e b.e).toNat) (b.num * 2 ^ (b.e - min a.e b.e).toNat)
theorem qmq (a b : DyD) (ha : qad a = true) (hb : qad b = true) : qaS a b = qaS b a := by
 unfold qaS
 by_cases h1 : a.num = 0 <;> by_cases h2 : b.num = 0
 ·rw [if_pos h1, if_pos h2, (qag ha).2.1 h1, (qag hb).2.1 h2]
 ·rw [if_pos h1, if_neg h2, if_pos h1]
 ·rw [if_neg h1, if_pos h2, if_pos h2]
 ·rw [if_neg h1, if_neg h2, if_neg h2, if_neg h1, Int.max_comm, Int.min_comm, Int.add_comm (a.num * _)]
theorem qgt {a b : DyD} (ha : qad a = true) (hb : qad b = true) : qad (qaS a b).1 = true := by
 unfold qaS
 split
 ·exact hb
 ·split
  ·exact ha
  ·split
   ·exact qdF
   ·exact qeF _ _
theorem qem (a b : DyD) : (qaS a b).2 = 0 ∨ qaS a b = (zD, 4) := by
 unfold qaS
 split
 ·exact .inl rfl
 ·split
  ·exact .inl rfl
  ·split
   ·exact .inr rfl
   ·exact qiy _ _
theorem qdm (a b : DyD) : qad (mulS a b).1 = true := qeF _ _
theorem qgD (a b : DyD) : (mulS a b).2 = 0 ∨ mulS a b = (zD, 4) := qiy _ _
theorem qnY {d : DyD} (h : qad d = true) : negS d = mkD (-d.num) d.e := by
 unfold negS
 split
 ·rename_i h0
  rw [h0, (qag h).2.1 h0]; rfl
 ·rename_i h0
  have h1 := qcp h
  have h2 := congrArg DyD.n (qhK h)
  refine DyD.ext' ?_ ?_ rfl
  ·show (!d.neg) = decide (-d.num < 0)
   rw [h1, Bool.eq_iff_iff]; simp only [Bool.not_eq_true', decide_eq_false_iff_not, decide_eq_true_eq]; omega
  ·show d.n = qa8 (-d.num).natAbs
   rw [Int.natAbs_neg]; exact h2.symm
theorem qfi {d : DyD} (h : qad d = true) : qad (negS d) = true := by
 by_cases h0 : d.num = 0
 ·unfold negS; rw [if_pos h0]; exact qdF
 ·rw [qnY h]
  obtain ⟨h1, -, h3, h4, h5⟩ := qag h
  exact qhQ (by rw [Int.natAbs_neg]; exact h3 h0) (by rw [Int.natAbs_neg]; exact h1) h4 h5
theorem qis {a b : DyD} (ha : qad a = true) (hb : qad b = true) : qad (qdG a b).1 = true := qgt ha (qfi hb)
theorem qgV (a b : DyD) : (qdG a b).2 = 0 ∨ qdG a b = (zD, 4) := qem _ _
theorem qdQ {z : Int} (h : 0 < z) (n : Nat) : 0 < z * 2 ^ n := Int.mul_pos h (Int.pow_pos (by omega))
theorem qc0 {z : Int} (h : z < 0) (n : Nat) : z * 2 ^ n < 0 := Int.mul_neg_of_neg_of_pos h (Int.pow_pos (by omega))
theorem qhr {a b : DyD} (h : a.num.sign ≠ b.num.sign ∨ a.num.sign = 0) : qbx a b = (a.num.sign - b.num.sign).sign := by
 unfold qbx
 rcases Int.lt_trichotomy a.num 0 with h1 | h1 | h1 <;> rcases Int.lt_trichotomy b.num 0 with h2 | h2 | h2
 ·rw [Int.sign_eq_neg_one_of_neg h1, Int.sign_eq_neg_one_of_neg h2] at h; omega
 ·rw [h2, Int.zero_mul, qb5 (qc0 h1 _), Int.sign_eq_neg_one_of_neg h1]; rfl
 ·rw [qb5 (Int.lt_trans (qc0 h1 _) (qdQ h2 _)), Int.sign_eq_neg_one_of_neg h1, Int.sign_eq_one_of_pos h2]; rfl
 ·rw [h1, Int.zero_mul, qcd (qc0 h2 _), Int.sign_eq_neg_one_of_neg h2]; rfl
 ·rw [h1, h2, Int.zero_mul, Int.zero_mul]; rfl
 ·rw [h1, Int.zero_mul, qb5 (qdQ h2 _), Int.sign_eq_one_of_pos h2]; rfl
 ·rw [qcd (Int.lt_trans (qc0 h2 _) (qdQ h1 _)), Int.sign_eq_one_of_pos h1, Int.sign_eq_neg_one_of_neg h2]; rfl
 ·rw [h2, Int.zero_mul, qcd (qdQ h1 _), Int.sign_eq_one_of_pos h1]; rfl
 ·rw [Int.sign_eq_one_of_pos h1, Int.sign_eq_one_of_pos h2] at h; omega
theorem qoD {x y p q : Nat} {e f k : Int} (hx : qbs x p) (hy : qbs y q) (hy0 : y ≠ 0) (he : k ≤ e) (hf : k ≤ f) (h : (p : Int) + e < q + f) : x * 2 ^ (e - k).toNat < y * 2 ^ (f - k).toNat := by
 have hq : q ≠ 0 := by rintro rfl; have := hy.1; simp at this; exact hy0 this
 have h1 : x * 2 ^ (e - k).toNat < 2 ^ p * 2 ^ (e - k).toNat := Nat.mul_lt_mul_of_pos_right hx.1 (Nat.pow_pos (by omega))
 have h2 : 2 ^ (q - 1) * 2 ^ (f - k).toNat ≤ y * 2 ^ (f - k).toNat := Nat.mul_le_mul_right _ (hy.2 hq)
 rw [← Nat.pow_add] at h1 h2
 have h3 : 2 ^ (p + (e - k).toNat) ≤ 2 ^ (q - 1 + (f - k).toNat) := Nat.pow_le_pow_right (by omega) (by omega)
 omega
theorem qd8 (z : Int) (n : Nat) (h : 0 ≤ z) : z * 2 ^ n = ((z.natAbs * 2 ^ n : Nat) : Int) := by
 rw [Int.natCast_mul, Int.natCast_pow, Int.natAbs_of_nonneg h]; rfl
theorem qcu (z : Int) (n : Nat) (h : z ≤ 0) : z * 2 ^ n = -((z.natAbs * 2 ^ n : Nat) : Int) := by
 have : z = -(z.natAbs : Int) := by omega
 rw [Int.natCast_mul, Int.natCast_pow]
 conv => lhs; rw [this]
 rw [Int.neg_mul]; rfl
theorem qjA {a b : DyD} {p q : Nat} (h : a.num.sign = b.num.sign) (h0 : a.num ≠ 0) (hp : qbs a.num.natAbs p) (hq : qbs b.num.natAbs q) (hne : (p : Int) + a.e ≠ q + b.e) : qbx a b = a.num.sign * ((p + a.e : Int) - (q + b.e)).sign := by
 unfold qbx
 have hb0 : b.num ≠ 0 := by
  intro e; rw [e] at h; exact h0 (Int.sign_eq_zero_iff_zero.1 h)
 have m1 : min a.e b.e ≤ a.e := Int.min_le_left ..
 have m2 : min a.e b.e ≤ b.e := Int.min_le_right ..
 rcases Int.lt_or_gt_of_ne hne with hlt | hgt
 ·have h1 := qoD hp hq (by omega) m1 m2 hlt
  rw [Int.sign_eq_neg_one_of_neg (show (p + a.e : Int) - (q + b.e) < 0 by omega)]
  rcases Int.lt_trichotomy a.num 0 with h2 | h2 | h2
  ·have h3 : b.num < 0 := by rw [Int.sign_eq_neg_one_of_neg h2] at h; exact Int.sign_eq_neg_one_iff_neg.1 h.symm
   rw [qcu _ _ (Int.le_of_lt h2), qcu _ _ (Int.le_of_lt h3), qcd (by omega), Int.sign_eq_neg_one_of_neg h2]; rfl
  ·exact absurd h2 h0
  ·have h3 : 0 < b.num := by rw [Int.sign_eq_one_of_pos h2] at h; exact Int.sign_eq_one_iff_pos.1 h.symm
   rw [qd8 _ _ (Int.le_of_lt h2), qd8 _ _ (Int.le_of_lt h3), qb5 (by omega), Int.sign_eq_one_of_pos h2]; rfl
 ·have h1 := qoD hq hp (by omega) m2 m1 hgt
  rw [Int.sign_eq_one_of_pos (show 0 < (p + a.e : Int) - (q + b.e) by omega)]
  rcases Int.lt_trichotomy a.num 0 with h2 | h2 | h2
  ·have h3 : b.num < 0 := by rw [Int.sign_eq_neg_one_of_neg h2] at h; exact Int.sign_eq_neg_one_iff_neg.1 h.symm
   rw [qcu _ _ (Int.le_of_lt h2), qcu _ _ (Int.le_of_lt h3), qb5 (by omega), Int.sign_eq_neg_one_of_neg h2]; rfl
  ·exact absurd h2 h0
  ·have h3 : 0 < b.num := by rw [Int.sign_eq_one_of_pos h2] at h; exact Int.sign_eq_one_iff_pos.1 h.symm
   rw [qd8 _ _ (Int.le_of_lt h2), qd8 _ _ (Int.le_of_lt h3), qcd (by omega), Int.sign_eq_one_of_pos h2]; rfl
theorem qfV (x : Int) : qdA x x = 0 := by unfold qdA; rw [if_neg (by omega), if_neg (by omega)]
theorem qlN (x y : Int) : qdA y x = -qdA x y := by
 rcases Int.lt_trichotomy x y with h | h | h
 ·rw [qb5 h, qcd h]; rfl
 ·subst h; rw [qfV]; rfl
 ·rw [qcd h, qb5 h]
theorem qhR (a b : DyD) : qbx b a = -qbx a b := by
 unfold qbx; rw [Int.min_comm, qlN]
theorem qjp (n i : Nat) (h : i < (qdD 256 n).length) : (qdD 256 n)[i]? = some (n / 256 ^ i % 256) := by
 have hd := qcB (B := 256) (by omega) n
 obtain ⟨x, hx⟩ : ∃ x, (qdD 256 n)[i]? = some x := ⟨_, List.getElem?_eq_getElem h⟩
 rw [hx, ← qey _ (by omega) hd.ok i x hx, hd.val]
theorem qoj {n k : Nat} (h : qbs n k) : (qdD 256 n).length = (k + 7) / 8 := by
 have e256 : ∀ m, 256 ^ m = 2 ^ (8 * m) := fun m => by rw [Nat.pow_mul]
 apply Nat.le_antisymm
 ·rw [qbH (by omega), e256]
  exact Nat.lt_of_lt_of_le h.1 (Nat.pow_le_pow_right (by omega) (by omega))
 ·by_cases hk : k = 0
  ·subst hk; simp
  ·have h1 := h.2 hk
   have h2 : ¬ (qdD 256 n).length ≤ (k + 7) / 8 - 1 := by
    rw [qbH (by omega), e256]
    have : 2 ^ (8 * ((k + 7) / 8 - 1)) ≤ 2 ^ (k - 1) := Nat.pow_le_pow_right (by omega) (by omega)
    omega
   omega
theorem qeJ {L : List UInt8} {n : Nat} (hl : L.length = (qdD 256 n).length) (h : ∀ i, i < L.length → L[L.length - 1 - i]? = some (UInt8.ofNat (n / 256 ^ i % 256))) : L = qay n := by
 apply List.ext_getElem?
 intro j
 by_cases hj : j < L.length
 ·have h1 := h (L.length - 1 - j) (by omega)
  rw [show L.length - 1 - (L.length - 1 - j) = j by omega] at h1
  rw [h1]
  unfold qay
  rw [List.getElem?_map, List.getElem?_reverse (by omega), ← hl, qjp n _ (by omega)]
  rfl
 ·rw [List.getElem?_eq_none (by omega), List.getElem?_eq_none (by rw [qaR]; omega)]
theorem qnL (q : Nat) : 4294967296 ^ q = 2 ^ (32 * q) := by rw [Nat.pow_mul]
theorem qje (q : Nat) : 256 ^ q = 2 ^ (8 * q) := by rw [Nat.pow_mul]
theorem qhl {D : List Nat} {n i d : Nat} (hD : ∀ x ∈ D, x < 4294967296) (hv : qac 4294967296 D = n) (hd : D[i / 4]? = some d) : d / 2 ^ (8 * (i % 4)) % 256 = n / 256 ^ i % 256 := by
 have h1 := qey D (by omega) hD (i / 4) d hd
 rw [hv] at h1
 rw [← h1, qnL, qje]
 have e : 4294967296 = 2 ^ (8 * (i % 4)) * 2 ^ (32 - 8 * (i % 4)) := by
  rw [← Nat.pow_add, show 8 * (i % 4) + (32 - 8 * (i % 4)) = 32 by omega]
 have h2 : n / 2 ^ (32 * (i / 4)) % 4294967296 / 2 ^ (8 * (i % 4)) = n / 2 ^ (32 * (i / 4)) / 2 ^ (8 * (i % 4)) % 2 ^ (32 - 8 * (i % 4)) := by
  rw [e, Nat.mod_mul_right_div_self]
 rw [h2, Nat.div_div_eq_div_mul, ← Nat.pow_add, show 32 * (i / 4) + 8 * (i % 4) = 8 * i by omega]
 have h3 : 2 ^ (32 - 8 * (i % 4)) = 256 * 2 ^ (24 - 8 * (i % 4)) := by
  rw [show 32 - 8 * (i % 4) = 8 + (24 - 8 * (i % 4)) by omega, Nat.pow_add]
 rw [h3, Nat.mod_mul_right_mod]
theorem qkD {D : List Nat} {V k d : Nat} (hD : ∀ x ∈ D, x < 4294967296) (hv : qac 4294967296 D = 256 ^ (k + 1) * V) (hd : D[k / 4]? = some d) (c : Nat) (hc : c < 256) : d ||| (c * 2 ^ (8 * (k % 4))) = d + c * 2 ^ (8 * (k % 4)) ∧ d + c * 2 ^ (8 * (k % 4)) < 4294967296 := by
 have h1 := qey D (by omega) hD (k / 4) d hd
 rw [hv, qnL, qje] at h1
 have e1 : 2 ^ (8 * (k + 1)) = 2 ^ (32 * (k / 4)) * 2 ^ (8 * (k % 4 + 1)) := by
  rw [← Nat.pow_add]; congr 1; omega
 rw [e1, Nat.mul_assoc, Nat.mul_div_cancel_left _ (Nat.pow_pos (by omega))] at h1
 have e2 : 4294967296 = 2 ^ (8 * (k % 4 + 1)) * 2 ^ (24 - 8 * (k % 4)) := by
  rw [← Nat.pow_add, show 8 * (k % 4 + 1) + (24 - 8 * (k % 4)) = 32 by omega]
 rw [e2, Nat.mul_mod_mul_left] at h1
 obtain ⟨s, hs⟩ : ∃ s, s = V % 2 ^ (24 - 8 * (k % 4)) := ⟨_, rfl⟩
 have hs2 : s < 2 ^ (24 - 8 * (k % 4)) := by rw [hs]; exact Nat.mod_lt _ (Nat.pow_pos (by omega))
 rw [← hs] at h1
 have h3 : c * 2 ^ (8 * (k % 4)) < 2 ^ (8 * (k % 4 + 1)) := by
  rw [show 8 * (k % 4 + 1) = 8 * (k % 4) + 8 by omega, Nat.pow_add, Nat.mul_comm (2 ^ _)]
  exact Nat.mul_lt_mul_of_pos_right hc (Nat.pow_pos (by omega))
 refine ⟨?_, ?_⟩
 ·rw [← h1, Nat.mul_comm (2 ^ _) s, qmK s _ _ h3]
 ·have h4 : 2 ^ (8 * (k % 4 + 1)) * (s + 1) ≤ 2 ^ (8 * (k % 4 + 1)) * 2 ^ (24 - 8 * (k % 4)) := Nat.mul_le_mul_left _ hs2
  rw [← e2, Nat.mul_add, Nat.mul_one, h1] at h4
  omega
theorem qmS {B : Nat} (l : List Nat) (p r d : Nat) (h : l[p]? = some r) : qac B (l.set p (r + d)) = qac B l + B ^ p * d := by
 have h1 : ∀ (l : List Nat) (p : Nat), l[p]? = some r → qac B (l.set p (r + d)) = qac B l + B ^ p * d := by
  intro l
  induction l with
  | nil => intro p h; simp at h
  | cons x l ih =>
   intro p h
   cases p with
   | zero => simp at h; subst h; simp [qac]; omega
   | succ p =>
    have := ih p (by simpa using h)
    simp only [List.set_cons_succ, qac, this, Nat.pow_succ, Nat.mul_add]
    have e : B * (B ^ p * d) = B ^ p * B * d := by ac_rfl
    rw [e, Nat.add_assoc]
 exact h1 l p h
theorem qj3 {D : List Nat} {V k d c : Nat} (hv : qac 4294967296 D = 256 ^ (k + 1) * V) (hd : D[k / 4]? = some d) : qac 4294967296 (D.set (k / 4) (d + c * 2 ^ (8 * (k % 4)))) = 256 ^ k * (256 * V + c) := by
 rw [qmS D _ _ _ hd, hv]
 have e : 4294967296 ^ (k / 4) * (c * 2 ^ (8 * (k % 4))) = 256 ^ k * c := by
  rw [qnL, qje, Nat.mul_comm c, ← Nat.mul_assoc, ← Nat.pow_add]
  congr 2; omega
 rw [e, Nat.pow_succ, Nat.mul_add, Nat.mul_assoc]
theorem qgE (l : List UInt8) (i : Nat) (x : UInt8) (h : l[i]? = some x) : qdb (l.take (i + 1)) = 256 * qdb (l.take i) + x.toNat := by
 unfold qdb
 rw [List.take_add_one, h, Option.toList_some, List.reverse_append, List.reverse_singleton, List.singleton_append, List.map_cons, qac]
 omega
abbrev D8 := Dig 256
def qaU (l : List Nat) : List Value := l.map fun x : Nat => .int .i64 (x : Int)
theorem qf7 (l : List Nat) : (qaU l).length = l.length := by simp [qaU]
theorem qmN (l : List Nat) (k x : Nat) (h : l[k]? = some x) : (qaU l)[k]? = some (.int .i64 (x : Int)) := by simp [qaU, h]
theorem qlE (l : List Nat) (k : Nat) : qaU (l.take k) = (qaU l).take k := by simp [qaU, List.map_take]
theorem qmF (l : List Nat) (k x : Nat) : qaU (l.set k x) = (qaU l).set k (.int .i64 (x : Int)) := by simp [qaU, List.map_set]
theorem qbN (l : List Nat) (x : Nat) : qaU (l ++ [x]) = qaU l ++ [.int .i64 (x : Int)] := by simp [qaU]
theorem qca (x : Int) : ∀ u ∈ [Value.int .i64 x], u.oneCell' = true := by
 intro u hu; rw [List.mem_singleton.1 hu]; rfl
theorem qbS {W : World} {A : Option Addr} {l : List Nat} (h : Row W A (qaU l)) {k x : Nat} (hx : l[k]? = some x) : ∃ b off, A = some ⟨b, off, none⟩ ∧ W.cell? ⟨b, off + k, none⟩ = some (.int .i64 (x : Int)) := by
 have hk := (List.getElem?_eq_some_iff.1 hx).1
 obtain ⟨b, off, hA, hc⟩ := h.at_ (k := k) (by rw [qf7]; exact hk)
 refine ⟨b, off, hA, ?_⟩
 rw [hc]
 have := qmN l k x hx
 rw [List.getElem?_eq_getElem (by rw [qf7]; exact hk)] at this
 exact this
def qbn (W : World) (v : Value) (n k : Nat) : Prop := ∃ A c l, v = .slice A l.length c ∧ l.length ≤ c ∧ l.length ≤ k ∧ Row W A (qaU l) ∧ D8 l n
theorem qbn.kept {W W' : World} {v : Value} {n k : Nat} (h : qbn W v n k) (hk : Kept W W') : qbn W' v n k := by
 obtain ⟨A, c, l, h1, h2, h3, h4, h5⟩ := h
 exact ⟨A, c, l, h1, h2, h3, h4.kept hk, h5⟩
theorem qbn.nil (W : World) (k : Nat) : qbn W (.slice none 0 0) 0 k := ⟨none, 0, [], rfl, by simp, by simp, .inl rfl, Dig.nil⟩
def atN (l : List Nat) (i : Nat) : Nat := l[i]?.getD 0
theorem qgF {l : List Nat} (h : ∀ x ∈ l, x < 256) (i : Nat) : atN l i < 256 := by
 unfold atN
 cases hx : l[i]? with
 | none => simp
 | some x => exact h x (List.mem_of_getElem? hx)
theorem qdV {l : List Nat} {i x : Nat} (h : l[i]? = some x) : atN l i = x := by unfold atN; rw [h]; rfl
theorem qfe {l : List Nat} {i : Nat} (h : l.length ≤ i) : atN l i = 0 := by unfold atN; rw [List.getElem?_eq_none h]; rfl
theorem qcx {B : Nat} (l : List Nat) (i : Nat) : qac B (l.take (i + 1)) = qac B (l.take i) + B ^ i * atN l i := by
 cases hx : l[i]? with
 | none =>
  have := List.getElem?_eq_none_iff.1 hx
  rw [qfe this, List.take_of_length_le this, List.take_of_length_le (by omega)]; simp
 | some x => rw [qdV hx, qao l i x hx]
theorem qdO {D : List Nat} (h : ∀ z ∈ D, z < 256) {x : Nat} (hx : x < 256) : ∀ z ∈ D ++ [x], z < 256 := by
 intro z hz
 rcases List.mem_append.1 hz with hz | hz
 ·exact h z hz
 ·rw [List.mem_singleton.1 hz]; exact hx
theorem qn4 {D : List Nat} {m x S : Nat} (h : qac 256 D + m * 256 ^ D.length = S) :
  qac 256 (D ++ [(m + x) % 256]) + (m + x) / 256 * 256 ^ (D ++ [(m + x) % 256]).length = S + 256 ^ D.length * x := by
 rw [List.length_append, List.length_singleton]; exact qef D m x S h
theorem qgS {D l l' : List Nat} {m i : Nat} (hD : D.length = i) (h : qac 256 D + m * 256 ^ D.length = qac 256 (l.take i) + qac 256 (l'.take i)) :
  qac 256 (D ++ [(m + (atN l i + atN l' i)) % 256]) + (m + (atN l i + atN l' i)) / 256 * 256 ^ (D ++ [(m + (atN l i + atN l' i)) % 256]).length = qac 256 (l.take (i + 1)) + qac 256 (l'.take (i + 1)) := by
 rw [qn4 h, qcx, qcx, hD, Nat.mul_add]; omega
theorem qkM {D l : List Nat} {m i a r : Nat} (hD : D.length = i) (h : qac 256 D + m * 256 ^ D.length = qac 256 (l.take i) * 2 ^ r) (ha : l[i]? = some a) :
  qac 256 (D ++ [(m + a * 2 ^ r) % 256]) + (m + a * 2 ^ r) / 256 * 256 ^ (D ++ [(m + a * 2 ^ r) % 256]).length = qac 256 (l.take (i + 1)) * 2 ^ r := by
 rw [qn4 h, qao l i a ha, hD, Nat.add_mul, Nat.mul_assoc]
theorem qf2 {D l l' : List Nat} {cy i x cz : Nat} (hD : D.length = i) (h : qac 256 D + qac 256 (l'.take i) = qac 256 (l.take i) + cy * 256 ^ D.length) (hx : x + atN l' i + cy = atN l i + cz * 256) :
  qac 256 (D ++ [x]) + qac 256 (l'.take (i + 1)) = qac 256 (l.take (i + 1)) + cz * 256 ^ (D ++ [x]).length := by
 rw [qcx, qcx, qbt, hD, List.length_append, List.length_singleton, hD, Nat.pow_succ]
 rw [hD] at h
 have h3 : 256 ^ i * (x + atN l' i + cy) = 256 ^ i * (atN l i + cz * 256) := by rw [hx]
 rw [Nat.mul_add, Nat.mul_add, Nat.mul_add, Nat.mul_comm _ cy] at h3
 have h4 : cz * (256 ^ i * 256) = 256 ^ i * (cz * 256) := by rw [← Nat.mul_assoc, Nat.mul_comm cz, Nat.mul_assoc]
 omega
theorem qko {D l l' : List Nat} {cy n x y : Nat} (hD : D.length = n) (hok : ∀ z ∈ D, z < 256) (h : qac 256 D + qac 256 (l'.take n) = qac 256 (l.take n) + cy * 256 ^ D.length) (hl : n = l.length) (hx : qac 256 l = x) (hl' : l'.length ≤ n) (hy : qac 256 l' = y) (hxy : y ≤ x) : qac 256 D = x - y := by
 rw [List.take_of_length_le hl', List.take_of_length_le (show l.length ≤ n by omega), hx, hy] at h
 have h2 := qcf D hok
 rcases Nat.eq_zero_or_pos cy with rfl | hc
 ·omega
 ·have : 256 ^ D.length * 1 ≤ cy * 256 ^ D.length := by rw [Nat.mul_comm]; exact Nat.mul_le_mul_right _ hc
  omega
theorem qlZ {R l' : List Nat} {cy p i j a r S : Nat} (hp : p = i + j) (hr : R[p]? = some r) (h : qac 256 R + cy * 256 ^ p = S + 256 ^ i * (a * qac 256 (l'.take j))) :
  qac 256 (R.set p ((cy + (r + a * atN l' j)) % 256)) + (cy + (r + a * atN l' j)) / 256 * 256 ^ (p + 1) = S + 256 ^ i * (a * qac 256 (l'.take (j + 1))) := by
 have h1 := qfa (B := 256) R p r ((cy + (r + a * atN l' j)) % 256) hr
 have h2 := Nat.mod_add_div (cy + (r + a * atN l' j)) 256
 generalize hy : atN l' j = y at *
 have h3 : 256 ^ p * ((cy + (r + a * y)) % 256) + (cy + (r + a * y)) / 256 * 256 ^ (p + 1) = 256 ^ p * (cy + (r + a * y)) := by
  conv => rhs; rw [← h2]
  rw [Nat.mul_add, Nat.pow_succ]
  congr 1
  ac_rfl
 have h4 : 256 ^ p * (cy + (r + a * y)) = cy * 256 ^ p + 256 ^ i * (a * (256 ^ j * y)) + 256 ^ p * r := by
  rw [Nat.mul_add, Nat.mul_add, hp, Nat.pow_add, Nat.mul_comm cy]
  have : 256 ^ i * 256 ^ j * (a * y) = 256 ^ i * (a * (256 ^ j * y)) := by ac_rfl
  omega
 rw [qcx, hy, Nat.mul_add, Nat.mul_add]
 omega
theorem qnX {R : List Nat} {p d : Nat} (h : ∀ z ∈ R, z < 256) (hd : d < 256) : ∀ z ∈ R.set p d, z < 256 := by
 intro z hz
 rcases List.mem_or_eq_of_mem_set hz with hz | rfl
 ·exact h z hz
 ·exact hd
theorem qim {l : List Nat} (hok : ∀ x ∈ l, x < 256) {i r : Nat} (hr : r < 8) (hi : i < l.length) :
  qac 256 l / 2 ^ r / 256 ^ i % 256 = (atN l i + 256 * atN l (i + 1)) / 2 ^ r % 256 := by
 have h1 : qac 256 l / 256 ^ i = (atN l i + 256 * atN l (i + 1)) + 2 ^ r * (256 * (2 ^ (8 - r) * qac 256 (l.drop (i + 2)))) := by
  rw [← qeD l (by omega) hok i (by omega), List.drop_eq_getElem_cons hi, qac]
  have ha : atN l i = l[i] := qdV (List.getElem?_eq_getElem hi)
  have h2 : qac 256 (l.drop (i + 1)) = atN l (i + 1) + 256 * qac 256 (l.drop (i + 2)) := by
   by_cases hi2 : i + 1 < l.length
   ·rw [List.drop_eq_getElem_cons hi2, qac, qdV (List.getElem?_eq_getElem hi2)]
   ·rw [List.drop_eq_nil_of_le (by omega), List.drop_eq_nil_of_le (by omega), qfe (by omega)]
    simp [qac]
  have h3 : 2 ^ r * (256 * (2 ^ (8 - r) * qac 256 (l.drop (i + 2)))) = 256 * (256 * qac 256 (l.drop (i + 2))) := by
   have h4 : 2 ^ r * 2 ^ (8 - r) = 256 := by rw [← Nat.pow_add, show r + (8 - r) = 8 by omega]
   rw [Nat.mul_left_comm, ← Nat.mul_assoc (2 ^ r), h4]
  rw [h2, h3, Nat.mul_add, ha, Nat.add_assoc]
 rw [Nat.div_div_eq_div_mul, Nat.mul_comm (2 ^ r), ← Nat.div_div_eq_div_mul, h1, Nat.add_mul_div_left _ _ (Nat.pow_pos (by omega)), Nat.add_mul_mod_self_left]
theorem qi5 {V i : Nat} {D : List Nat} (hD : D.length = i) (h : qac 256 D = V % 256 ^ i) : qac 256 (D ++ [V / 256 ^ i % 256]) = V % 256 ^ (i + 1) := by
 rw [qbt, h, hD, Nat.pow_succ, Nat.mod_mul]
section
set_option maxHeartbeats 1600000
set_option maxRecDepth 100000
theorem qnU (A : Option Addr) (c : Nat) (l : List Nat) (w : World) (hl : l.length ≤ 1000000000) (hc : l.length ≤ c) (hr : Row w A (qaU l)) (hok : ∀ x ∈ l, x < 256) :
  Calls prog 161 #[.slice A l.length c] w fun e w' => ∃ m, e = .returned (.slice A m c) ∧ m ≤ l.length ∧ D8 (l.take m) (qac 256 l) ∧ w' = w := by
 have HR := qh hr
 have HO := qh hok
 obtain ⟨n, hn⟩ : ∃ n, n = l.length := ⟨_, rfl⟩
 rw [← hn] at hl hc ⊢
 have HN := qh hn
 clear hr hok hn
 go_enter func161, ntmps161
 go_wp2_with fail
 go_loopg [3] n (fun gh v3 wr => v3 = .int .i64 (gh : Int) ∧ gh ≤ n ∧ qac 256 (l.take gh) = qac 256 l ∧ wr = w)
 case atStart => exact ⟨rfl, Nat.le_refl _, by rw [List.take_of_length_le (by have := HN.out; omega)], rfl⟩
 case round =>
  obtain ⟨rfl, hgn, hv, rfl⟩ := hrel
  cases gk with
  | zero =>
   have HV := qh hv
   clear hv
   go_wp2_with fail
   go_ret
   exact ⟨0, qhz (by omega) rfl, by omega, ⟨by simp, by rw [← HV.out], by simp⟩, rfl⟩
  | succ gh =>
   obtain ⟨x, hx⟩ : ∃ x, l[gh]? = some x := ⟨_, List.getElem?_eq_getElem (by have := HN.out; omega)⟩
   obtain ⟨b, off, rfl, hc0⟩ := qbS HR.out hx
   have HX := qh hx
   have HV := qh hv
   have hxb := HO.out x (List.mem_of_getElem? hx)
   clear hv hx
   by_cases h0 : x = 0
   ·subst h0
    go_wp2_with fail
    go_roundg gh
    case measure => omega
    case rel => exact ⟨by go_num, by omega, by rw [← HV.out, qao l gh 0 HX.out]; simp, rfl⟩
   ·have h1 : ¬ (x : Int) = 0 := by omega
    go_wp2_with fail
    go_ret
    exact ⟨gh + 1, qhz (by omega) rfl, by omega, ⟨fun y hy => HO.out y (List.mem_of_mem_take hy), HV.out, by
     rw [List.take_add_one, HX.out]
     simp; omega⟩, rfl⟩
theorem qfz (A : Option Addr) (c : Nat) (l : List Nat) (i : Nat) (w : World) (hi : i ≤ 1000000000) (hr : Row w A (qaU l)) :
  Calls prog 173 #[.slice A l.length c, .int .i64 (i : Int)] w fun e w' => e = .returned (.int .i64 (atN l i : Nat)) ∧ w' = w := by
 by_cases h : i < l.length
 ·obtain ⟨x, hx⟩ : ∃ x, l[i]? = some x := ⟨_, List.getElem?_eq_getElem h⟩
  obtain ⟨b, off, rfl, hc0⟩ := qbS hr hx
  rw [qdV hx]
  have h1 : (i : Int) < l.length := by omega
  clear hr hx
  go_enter func173, ntmps173
  go_wp2_with fail
  go_ret
  exact ⟨rfl, rfl⟩
 ·have h1 : ¬ (i : Int) < l.length := by omega
  rw [qfe (by omega)]
  clear hr
  go_enter func173, ntmps173
  go_wp2_with fail
  go_ret
  exact ⟨rfl, rfl⟩
theorem qdt : (prog.info? 3).map (fun i => (i.zero, i.size, i.bytes)) = some (some (.int .i64 0), 1, 8) := by kernel_rfl
def ofL (s : ByteArray) : List Nat := s.data.toList.reverse.map UInt8.toNat
theorem qe4 (s : ByteArray) : (ofL s).length = s.size := by simp [ofL]
theorem qom (s : ByteArray) (k : Nat) (h : k < s.size) : (ofL s)[s.size - 1 - k]? = some (s[k]'h).toNat := by
 obtain ⟨⟨l⟩⟩ := s
 have h' : k < l.length := h
 show (l.reverse.map UInt8.toNat)[l.length - 1 - k]? = _
 rw [List.getElem?_map, List.getElem?_reverse (by omega), show l.length - 1 - (l.length - 1 - k) = k by omega, List.getElem?_eq_getElem h']
 rfl
theorem qk2 {s : ByteArray} (h : s.data.toList.head? ≠ some 0) : D8 (ofL s) (qfl s) := qhx h
theorem qkR (s : ByteArray) (w : World) (hs : s.size ≤ 1000000) :
  Calls prog 124 #[.string s] w fun e w' => ∃ v, e = .returned v ∧ Own w' w.heap.size 1 v s.size (qaU (ofL s)) ∧ Kept w w' := by
 obtain ⟨i0, hi, hi0, hi1, hi2⟩ := info_parts qdt
 obtain ⟨n, hn⟩ : ∃ n, n = s.size := ⟨_, rfl⟩
 have HN := qh hn
 clear hn
 go_enter func124, ntmps124
 go_wp2_with fail
 go_loopg [3, 4] n (fun gh v3 v4 wr => ∃ j : Nat, j + gh = n ∧ v4 = .int .i64 ((gh : Int) - 1) ∧ Own wr w.heap.size 1 v3 j (qaU ((ofL s).take j)) ∧ Kept w wr)
 case atStart => exact ⟨0, by omega, by rw [HN.out], by simpa [qaU] using Own.nil w w.heap.size 1, Below.refl _ _⟩
 case round =>
  obtain ⟨j, hj, rfl, hown, hk⟩ := hrel
  have HO := qh hown
  have HK := qh hk
  have hnb : n ≤ 1000000 := by rw [HN.out]; exact hs
  clear hown hk
  cases gk with
  | zero =>
   obtain rfl : j = n := by omega
   go_wp2_with fail
   go_ret
   exact ⟨_, rfl, by have := HO.out; rw [List.take_of_length_le (by rw [qe4]; have := HN.out; omega)] at this; rw [← HN.out]; exact this, HK.out⟩
  | succ gh =>
   have hlt : gh < s.size := by have := HN.out; omega
   have hltI : (gh : Int) < s.size := by have := HN.out; omega
   have hg0 : ((gh : Int) + 1 - 1) = gh := by omega
   have hx := qom s gh hlt
   obtain ⟨x, hxx⟩ : ∃ x, s[gh]'hlt = x := ⟨_, rfl⟩
   rw [hxx] at hx
   have hxb := x.toNat_lt
   have hw : IntKind.i64.wrap (x.toNat : Int) = (x.toNat : Int) := IntWalk.i64_in _ (by omega)
   have HX := qh hx
   clear hx
   go_wp2_with (at_builtin; refine qap _ rfl _ _ 207 rfl w.heap.size 3 i0 (.int .i64 0) 1 8 underlying207 hi hi0 hi1 hi2 rfl (by decide) _ j _ rfl (HO.out.alloc _) (some ⟨wr.heap.size, 0, none⟩) 1 1 [.int .i64 (x.toNat : Int)] rfl rfl (Row.qbA _ _ _ _ _ _ rfl rfl) (qca _) ?_ ?_ ?_ ?_)
   ·unfold maxLen; omega
   ·omega
   ·have := HK.out.size; simp; omega
   ·intro v3 w3 hown3 hg3 hat3
    have HO3 := qh hown3
    have HK3 := qh (qa6 (HK.out.alloc (HK.out.size) _) (HO.out.alloc _) (Nat.le_refl _) (by have := HK.out.size; simp; omega) hg3)
    clear hown3 hg3 hat3 HO HK
    go_wp2_with fail
    go_roundg gh
    case measure => omega
    case rel => exact ⟨j + 1, by omega, by go_num, by
     rw [List.take_add_one, show (ofL s)[j]? = some x.toNat by rw [← HX.out]; congr 1; have := HN.out; omega, Option.toList_some, qbN]
     exact HO3.out, HK3.out⟩
end
section
set_option maxHeartbeats 1600000
set_option maxRecDepth 100000
theorem qnF (A A' : Option Addr) (c c' : Nat) (l l' : List Nat) (x y : Nat) (w : World) (hl : l.length ≤ 1000000000) (hl' : l'.length ≤ 1000000000) (hr : Row w A (qaU l)) (hr' : Row w A' (qaU l')) (hd : D8 l x) (hd' : D8 l' y) :
  Calls prog 126 #[.slice A l.length c, .slice A' l'.length c'] w fun e w' => e = .returned (.int .i64 (qbD x y)) ∧ ∃ m, w' = w.drewN m := by
 have HR := qh hr
 have HR' := qh hr'
 have HD := qh hd
 have HD' := qh hd'
 clear hr hr' hd hd'
 rcases Nat.lt_trichotomy l.length l'.length with h | h | h
 ·have HL := qh (HD.out.qdq HD'.out (by omega) h)
  have h1 : ¬ (l.length : Int) = l'.length := by omega
  have h2 : (l.length : Int) < l'.length := by omega
  go_enter func126, ntmps126
  go_wp2_with fail
  go_ret
  exact ⟨qaT (qcv HL.out).symm, 0, rfl⟩
 ·obtain ⟨n, hn⟩ : ∃ n, n = l.length := ⟨_, rfl⟩
  rw [← h, ← hn]
  have HN := qh (And.intro hn (hn.trans h))
  rw [← hn] at hl
  clear h hl' hn
  go_enter func126, ntmps126
  go_wp2_with fail
  go_loopg [5] n (fun gh v5 wr => v5 = .int .i64 ((gh : Int) - 1) ∧ gh ≤ n ∧ l.drop gh = l'.drop gh ∧ ∃ m, wr = w.drewN m)
  case atStart => exact ⟨by go_num, Nat.le_refl _, by rw [List.drop_eq_nil_of_le (by have := HN.out.1; omega), List.drop_eq_nil_of_le (by have := HN.out.2; omega)], 0, rfl⟩
  case round =>
   obtain ⟨rfl, hgn, hv, m, rfl⟩ := hrel
   cases gk with
   | zero =>
    have HV := qh (show x = y by rw [← HD.out.val, ← HD'.out.val]; simpa using congrArg (qac 256) hv)
    clear hv
    go_wp2_with fail
    go_ret
    exact ⟨qaT (by rw [HV.out, qd7]), m, rfl⟩
   | succ gh =>
    obtain ⟨a, ha⟩ : ∃ x, l[gh]? = some x := ⟨_, List.getElem?_eq_getElem (by have := HN.out.1; omega)⟩
    obtain ⟨b, hb⟩ : ∃ x, l'[gh]? = some x := ⟨_, List.getElem?_eq_getElem (by have := HN.out.2; omega)⟩
    obtain ⟨ba, oa, rfl, ca⟩ := qbS HR.out ha
    obtain ⟨bb, ob, rfl, cb⟩ := qbS HR'.out hb
    have HA := qh (And.intro ha hb)
    have HV := qh hv
    have hab := HD.out.ok a (List.mem_of_getElem? ha)
    have hbb := HD'.out.ok b (List.mem_of_getElem? hb)
    have hg1 : ((gh : Int) + 1 - 1) = gh := by omega
    have hg2 : (0 : Int) ≤ gh := by omega
    have hg3 : (gh : Int) < n := by omega
    clear hv ha hb
    by_cases h0 : a = b
    ·subst h0
     go_wp2_with fail
     go_quiet (fail)
     go_wp2_with fail
     go_roundg gh
     case measure => omega
     case rel => exact ⟨by go_num, by omega, by rw [List.drop_eq_getElem_cons (by have := HN.out.1; omega), List.drop_eq_getElem_cons (show gh < l'.length by have := HN.out.2; omega), HV.out]; congr 1; have e1 := HA.out.1; have e2 := HA.out.2; rw [List.getElem?_eq_getElem (by have := HN.out.1; omega)] at e1; rw [List.getElem?_eq_getElem (by have := HN.out.2; omega)] at e2; rw [Option.some.inj e1, Option.some.inj e2], _, rfl⟩
    ·have h1 : ¬ (a : Int) = b := by omega
     by_cases h2 : a < b
     ·have h3 : (a : Int) < b := by omega
      have HL := qh (show x < y by rw [← HD.out.val, ← HD'.out.val]; exact qcc HD.out.ok gh a b (HN.out.1.symm.trans HN.out.2) HA.out.1 HA.out.2 HV.out h2)
      go_wp2_with fail
      go_quiet (fail)
      go_wp2_with fail
      go_quiet (fail)
      go_wp2_with fail
      go_ret
      exact ⟨qaT (qcv HL.out).symm, _, by rw [World.drewN_drewN, World.drewN_drewN]⟩
     ·have h3 : ¬ (a : Int) < b := by omega
      have HL := qh (show y < x by rw [← HD.out.val, ← HD'.out.val]; exact qcc HD'.out.ok gh b a (HN.out.2.symm.trans HN.out.1) HA.out.2 HA.out.1 HV.out.symm (by omega))
      go_wp2_with fail
      go_quiet (fail)
      go_wp2_with fail
      go_quiet (fail)
      go_wp2_with fail
      go_ret
      exact ⟨qaT (qdi HL.out).symm, _, by rw [World.drewN_drewN, World.drewN_drewN]⟩
 ·have HL := qh (HD'.out.qdq HD.out (by omega) h)
  have h1 : ¬ (l.length : Int) = l'.length := by omega
  have h2 : ¬ (l.length : Int) < l'.length := by omega
  go_enter func126, ntmps126
  go_wp2_with fail
  go_ret
  exact ⟨qaT (qdi HL.out).symm, 0, rfl⟩
theorem qlx {x k : Nat} (h : qbs x (k + 1)) : x ≠ 0 ∧ qbs (x / 2) k := by
 have h2 := h.2 (by omega)
 rw [Nat.add_sub_cancel] at h2
 have hp : 0 < 2 ^ k := Nat.pow_pos (by omega)
 refine ⟨by omega, by have := h.1; rw [Nat.pow_succ] at this; omega, fun hk => ?_⟩
 obtain ⟨j, rfl⟩ : ∃ j, k = j + 1 := ⟨k - 1, by omega⟩
 rw [Nat.pow_succ] at h2
 rw [Nat.add_sub_cancel]; omega
theorem qle (A : Option Addr) (c : Nat) (l : List Nat) (x : Nat) (w : World) (hl : l.length ≤ 100000000) (hr : Row w A (qaU l)) (hd : D8 l x) :
  Calls prog 160 #[.slice A l.length c] w fun e w' => ∃ k, e = .returned (.int .i64 (k : Nat)) ∧ qbs x k ∧ k ≤ 8 * l.length ∧ w' = w := by
 by_cases h0 : l.length = 0
 ·have h1 : l = [] := List.eq_nil_of_length_eq_zero h0
  subst h1
  have h2 := (hd.qcb (by omega)).1 rfl
  subst h2
  clear hr hd
  go_enter func160, ntmps160
  go_wp2_with fail
  go_ret
  exact ⟨0, rfl, qeI, by omega, rfl⟩
 ·obtain ⟨m, t, rfl⟩ : ∃ m t, l = m ++ [t] := ⟨l.dropLast, l.getLast (by intro h; simp [h] at h0), (List.dropLast_concat_getLast (by intro h; simp [h] at h0)).symm⟩
  have ht0 : t ≠ 0 := fun e => hd.top (by simp [e])
  have htb : t < 256 := hd.ok t (by simp)
  obtain ⟨b, off, rfl, c0⟩ := qbS hr (k := m.length) (x := t) (by simp)
  obtain ⟨n, hn⟩ : ∃ n, n = m.length := ⟨_, rfl⟩
  have hlen : (m ++ [t]).length = n + 1 := by simp [hn]
  rw [hlen] at hl ⊢
  obtain ⟨K, hK⟩ : ∃ K, qbs t K := ⟨_, qf3 t (by omega)⟩
  have hK8 : K ≤ 8 := by
   rcases Nat.lt_or_ge 8 K with h | h
   ·have h1 := hK.2 (by omega)
    have h2 : 2 ^ 8 ≤ 2 ^ (K - 1) := Nat.pow_le_pow_right (by omega) (by omega)
    omega
   ·exact h
  have HF := qh (show qbs x (8 * n + K) by
   rw [← hd.val, qbt, show (256 : Nat) = 2 ^ 8 from rfl, ← Nat.pow_mul, ← hn]
   refine qiJ ?_ ht0 hK
   have := qcf (B := 256) m (fun z hz => hd.ok z (by simp [hz]))
   rw [show (256 : Nat) = 2 ^ 8 from rfl, ← Nat.pow_mul, ← hn] at this
   exact this)
  rw [← hn] at c0
  have HKK := qh hK
  clear hr hd hlen hn h0 ht0 hK
  go_enter func160, ntmps160
  go_wp2_with fail
  go_loopg [3, 4] K (fun gh v3 v4 wr => ∃ d y : Nat, d + gh = K ∧ v3 = .int .i64 ((8 * n + d : Nat) : Int) ∧ v4 = .int .i64 (y : Int) ∧ y < 256 ∧ qbs y gh ∧ wr = w)
  case atStart => exact ⟨0, t, by omega, by go_num, rfl, htb, HKK.out, rfl⟩
  case round =>
   obtain ⟨d, y, hdg, rfl, rfl, hyb, hy, rfl⟩ := hrel
   cases gk with
   | zero =>
    have hy0 : y = 0 := by have := hy.1; simpa using this
    subst hy0
    obtain rfl : d = K := by omega
    clear hy
    go_wp2_with fail
    go_ret
    exact ⟨8 * n + d, rfl, HF.out, by omega, rfl⟩
   | succ gh =>
    obtain ⟨hy0, hy1⟩ := qlx hy
    have HY := qh hy1
    have hyp : (0 : Int) < y := by omega
    clear hy hy1
    go_wp2_with fail
    go_roundg gh
    case measure => omega
    case rel => exact ⟨d + 1, y / 2, by omega, by go_num, by go_num, by omega, HY.out, rfl⟩
theorem qmi {l : List Nat} {x n d : Nat} (h : D8 l x) (hd : l[n / 8]? = some d) : d / 2 ^ (n % 8) % 2 = x / 2 ^ n % 2 := by
 have h1 := qey l (by omega) h.ok (n / 8) d hd
 rw [h.val] at h1
 rw [← h1]
 have e : 256 = 2 ^ (n % 8) * 2 ^ (8 - n % 8) := by rw [← Nat.pow_add, show n % 8 + (8 - n % 8) = 8 by omega]
 have e2 : 2 ^ (8 - n % 8) = 2 * 2 ^ (7 - n % 8) := by rw [show 8 - n % 8 = 7 - n % 8 + 1 by omega, Nat.pow_succ, Nat.mul_comm]
 have h2 : x / 256 ^ (n / 8) % 256 / 2 ^ (n % 8) = x / 256 ^ (n / 8) / 2 ^ (n % 8) % 2 ^ (8 - n % 8) := by
  generalize x / 256 ^ (n / 8) = y
  conv => lhs; rw [e]
  exact Nat.mod_mul_right_div_self ..
 rw [h2, e2, Nat.mod_mul_right_mod, Nat.div_div_eq_div_mul, qje, ← Nat.pow_add, show 8 * (n / 8) + n % 8 = n by omega]
theorem ql4 {x t n : Nat} (h : qch x t) (hn : n < t) : x / 2 ^ n % 2 = 0 := by
 obtain ⟨q, hq⟩ : ∃ q, x = q * 2 ^ t := ⟨_, h.eq⟩
 rw [hq, show t = n + 1 + (t - n - 1) by omega, Nat.pow_add, Nat.pow_succ, show q * (2 ^ n * 2 * 2 ^ (t - n - 1)) = 2 ^ n * (2 * (q * 2 ^ (t - n - 1))) by ac_rfl, Nat.mul_div_cancel_left _ (Nat.pow_pos (by omega))]
 omega
theorem qm7 (A : Option Addr) (c : Nat) (l : List Nat) (x t : Nat) (w : World) (hl : l.length ≤ 100000000) (hr : Row w A (qaU l)) (hd : D8 l x) (ht : qch x t) :
  Calls prog 172 #[.slice A l.length c] w fun e w' => e = .returned (.int .i64 (t : Int)) ∧ w' = w := by
 have HR := qh hr
 have HD := qh hd
 have HT := qh ht
 have hb : t < 8 * l.length := by
  have h1 := hd.lt
  rw [qje] at h1
  exact ht.lt h1
 obtain ⟨n, hn⟩ : ∃ n, n = l.length := ⟨_, rfl⟩
 rw [← hn] at hl hb ⊢
 have HN := qh hn
 clear hr hd ht hn
 go_enter func172, ntmps172
 go_wp2_with fail
 go_loopg [3] t (fun gh v3 wr => ∃ j : Nat, j + gh = t ∧ v3 = .int .i64 (j : Int) ∧ wr = w)
 case atStart => exact ⟨0, by omega, rfl, rfl⟩
 case round =>
  obtain ⟨j, hj, rfl, rfl⟩ := hrel
  have hq : j / 8 < n := by omega
  have hqI : (j : Int) / 8 < n := by omega
  have hq0 : (0 : Int) ≤ (j : Int) / 8 := by omega
  have hq2 : ((j : Int) / 8).toNat = j / 8 := by omega
  have hr0 : (0 : Int) ≤ (j : Int) % 8 := by omega
  have hr1 : (j : Int) % 8 ≤ 64 := by omega
  have hr2 : ((j : Int) % 8).toNat = j % 8 := by omega
  obtain ⟨d, hd⟩ : ∃ x, l[j / 8]? = some x := ⟨_, List.getElem?_eq_getElem (by have := HN.out; omega)⟩
  obtain ⟨b, off, rfl, c0⟩ := qbS HR.out hd
  have hdb := HD.out.ok d (List.mem_of_getElem? hd)
  have hbit := qmi HD.out hd
  have HB := qh hbit
  obtain ⟨y, hy⟩ : ∃ y, y = d / 2 ^ (j % 8) := ⟨_, rfl⟩
  have hyI : (d : Int) / 2 ^ (j % 8) = (y : Int) := by rw [hy]; simp
  have hyb : y < 256 := by rw [hy]; exact Nat.lt_of_le_of_lt (Nat.div_le_self _ _) hdb
  have hand : bits BinOp.and IntKind.i64 (y : Int) 1 = ((y % 2 : Nat) : Int) := and_one y (by omega)
  rw [← hy] at hbit
  clear hd hy
  cases gk with
  | zero =>
   obtain rfl : j = t := by omega
   have h1 : y % 2 = 1 := by rw [hbit]; exact HT.out.2
   rw [h1] at hand
   clear hbit
   go_wp2_with fail
   go_ret
   exact ⟨rfl, rfl⟩
  | succ gh =>
   have h1 : y % 2 = 0 := by rw [hbit]; exact ql4 HT.out (by omega)
   rw [h1] at hand
   clear hbit
   go_wp2_with fail
   go_roundg gh
   case measure => omega
   case rel => exact ⟨j + 1, by omega, by go_num, rfl⟩
end
theorem qiR (n : Nat) (hn : n ≤ 1000000000) (W : World) : (Instr.makeSlice 207 (.int .i64 (n : Int)) (.int .i64 (n : Int))).run prog W = .ok (.slice (some ⟨W.heap.size, 0, none⟩) n n) (W.alloc (.cells (qaU (List.replicate n 0)).toArray 3)) := by
 obtain ⟨i, hi, hi0, hi1, hi2⟩ := info_parts qdt
 have h9 := run_make (P := prog) W 207 3 i (.int .i64 0) underlying207 hi hi0 .i64 .i64 (n : Int) (n : Int) (by omega) (Int.le_refl _) (by rw [hi2]; omega) (by omega)
 rw [hi1, Int.toNat_natCast, Nat.mul_one, show (Value.int .i64 0).cells = #[.int .i64 0] from rfl, qhc] at h9
 rw [h9]
 simp [qaU]
theorem qk3 (W : World) (n : Nat) (hn : n ≤ 1000000000) : Own (W.alloc (.cells (qaU (List.replicate n 0)).toArray 3)) W.heap.size 1 (.slice (some ⟨W.heap.size, 0, none⟩) n n) n (qaU (List.replicate n 0)) :=
 Own.new W _ _ (0, 0) n 1 _ W.heap.size W.heap.size rfl (Nat.le_refl _) (by unfold maxLen; omega) (by simp [qaU]) rfl (.inr rfl)
theorem qeu {W : World} {base n : Nat} {v : Value} {L : List Nat} {m k : Nat} (h : Own W base 1 v n (qaU L)) (hL : L.length = n) (hn : n ≤ 1000000000) (hk : n ≤ k) (hok : ∀ x ∈ L, x < 256) (hv : qac 256 L = m) :
  Calls prog 161 #[v] W fun e w' => ∃ v, e = .returned v ∧ qbn w' v m k ∧ w' = W := by
 subst hL
 obtain ⟨A, c, rfl, hnc, hcm, hrow, -, -⟩ := h.form
 refine (qnU A c L W hn hnc hrow hok).mono ?_
 rintro e w' ⟨j, rfl, hj, hd, rfl⟩
 refine ⟨_, rfl, ⟨A, c, L.take j, ?_, ?_, ?_, ?_, ?_⟩, rfl⟩
 ·rw [List.length_take, Nat.min_eq_left hj]
 ·rw [List.length_take]; omega
 ·rw [List.length_take]; omega
 ·rw [qlE]; exact hrow.take j
 ·rw [← hv]; exact hd
theorem qo7 {a r : Nat} (ha : a < 256) (hr : r < 8) : a * 2 ^ r ≤ 32640 ∧ ∀ m, m < 2 ^ r → m + a * 2 ^ r < 256 * 2 ^ r ∧ m < 128 := by
 have h1 : 2 ^ r ≤ 2 ^ 7 := Nat.pow_le_pow_right (by omega) (by omega)
 have h2 : a * 2 ^ r ≤ 255 * 2 ^ r := Nat.mul_le_mul_right _ (by omega)
 refine ⟨by omega, fun m hm => ⟨by omega, by omega⟩⟩
set_option maxRecDepth 100000 in
set_option maxHeartbeats 1600000 in
theorem qlD (A : Option Addr) (c : Nat) (l : List Nat) (x s : Nat) (w : World) (hl : l.length ≤ 1000000) (hs : s ≤ 100000000) (hr : Row w A (qaU l)) (hd : D8 l x) :
  Calls prog 125 #[.slice A l.length c, .int .i64 (s : Int)] w fun e w' => ∃ v, e = .returned v ∧ qbn w' v (x * 2 ^ s) (l.length + s / 8 + 1) ∧ Kept w w' := by
 obtain ⟨i0, hi, hi0, hi1, hi2⟩ := info_parts qdt
 have HR := qh hr
 have HD := qh hd
 clear hr hd
 obtain ⟨n, hn⟩ : ∃ n, n = l.length := ⟨_, rfl⟩
 obtain ⟨q, hq⟩ : ∃ q, q = s / 8 := ⟨_, rfl⟩
 obtain ⟨r, hr⟩ : ∃ r, r = s % 8 := ⟨_, rfl⟩
 rw [← hn] at hl
 rw [← hn, ← hq]
 have HN := qh hn
 have HQ := qh (And.intro hq hr)
 have eq1 : (s : Int) / 8 = q := by omega
 have eq2 : (s : Int) % 8 = r := by omega
 have hr9 : r < 8 := by omega
 have hr8 : (r : Int) ≤ 64 := by omega
 have hq9 : q ≤ 100000000 := by omega
 clear hn hq hr
 by_cases h0 : n = 0
 ·subst h0
  go_enter func125, ntmps125
  go_wp2_with fail
  go_ret
  refine ⟨_, rfl, ?_, Below.refl _ _⟩
  rw [(HD.out.qcb (by omega)).1 (List.eq_nil_of_length_eq_zero HN.out.symm), Nat.zero_mul]
  exact qbn.nil _ _
 ·have h1 : ¬ (n : Int) = 0 := by omega
  have h2 : ((n : Int) == 0) = false := by simpa using h1
  have mk := qiR q (by omega)
  go_enter func125, ntmps125
  go_upto_region 4 with fail
  have HO := qh (qk3 w q (by omega))
  have HK := qh (show Kept w (w.alloc (.cells (qaU (List.replicate q 0)).toArray 3)) from (Below.refl _ _).alloc (Nat.le_refl _) _)
  generalize (w.alloc (.cells (qaU (List.replicate q 0)).toArray 3)) = W1 at *
  generalize (Value.slice (some ⟨w.heap.size, 0, none⟩) q q) = v0 at *
  clear mk
  go_wp2_with fail
  go_loopg [5, 6, 7] n (fun gh v5 v6 v7 wr => ∃ (i m : Nat) (D : List Nat), i + gh = n ∧ v7 = .int .i64 i ∧ v6 = .int .i64 m ∧ D.length = i ∧ (∀ z ∈ D, z < 256) ∧ m < 2 ^ r ∧ qac 256 D + m * 256 ^ D.length = qac 256 (l.take i) * 2 ^ r ∧
   Own wr w.heap.size 1 v5 (q + i) (qaU (List.replicate q 0 ++ D)) ∧ Kept w wr)
  case atStart => exact ⟨0, 0, [], by omega, rfl, rfl, rfl, by simp, Nat.pow_pos (by omega), by simp [qac], by simpa using HO.out, HK.out⟩
  case round =>
   obtain ⟨i, m, D, hig, rfl, rfl, hDl, hDo, hm, hv, ho, hk⟩ := hrel
   have HOW := qh ho
   have HKR := qh hk
   have HV := qh (And.intro hDl (And.intro hDo (And.intro hm hv)))
   have hm8 : m < 128 := by have : 2 ^ r ≤ 2 ^ 7 := Nat.pow_le_pow_right (by omega) (by omega); omega
   clear hv ho hDo hDl hm
   cases gk with
   | zero =>
    obtain rfl : i = n := by omega
    clear hk
    go_wp2_with (at_builtin; refine qap _ rfl _ _ 207 rfl w.heap.size 3 i0 (.int .i64 0) 1 8 underlying207 hi hi0 hi1 hi2 rfl (by decide) _ (q + i) _ rfl (HOW.out.alloc _) (some ⟨wr.heap.size, 0, none⟩) 1 1 [.int .i64 (m : Int)] rfl rfl (Row.qbA _ _ _ _ _ _ rfl rfl) (qca _) ?_ ?_ ?_ ?_)
    ·unfold maxLen; omega
    ·omega
    ·have := HKR.out.size; simp; omega
    ·intro v3 w3 hown3 hg3 hat3
     have HO3 := qh hown3
     have HK3 := qh (qa6 (HKR.out.alloc (HKR.out.size) _) (HOW.out.alloc _) (Nat.le_refl _) (by have := HKR.out.size; simp; omega) hg3)
     clear hown3 hg3 hat3
     go_wp2_with (go_at_call 161; refine (qeu (base := w.heap.size) (n := q + i + 1) (m := x * 2 ^ s) (k := i + q + 1) (L := (List.replicate q 0 ++ D) ++ [m]) (by rw [qbN]; exact HO3.out) (by simp [HV.out.1]; omega) (by omega) (by omega) (qdO (fun z hz => (List.mem_append.1 hz).elim (fun hz => by rw [(List.mem_replicate.1 hz).2]; omega) (HV.out.2.1 z)) (by omega)) ?_).mono ?_; rotate_left; rintro e w9 ⟨v9, rfl, hd9, rfl⟩)
     ·go_ret
      exact ⟨v9, rfl, hd9, HK3.out⟩
     ·rw [List.append_assoc, qcX, qcQ, qbt, Nat.zero_add, List.length_replicate, Nat.mul_comm (256 ^ D.length), HV.out.2.2.2, List.take_of_length_le (by have := HN.out; omega), HD.out.val]
      rw [show (256 : Nat) = 2 ^ 8 from rfl, ← Nat.pow_mul, Nat.mul_comm, Nat.mul_assoc, ← Nat.pow_add]
      congr 2
      have := HQ.out; omega
   | succ gh =>
    obtain ⟨a, ha⟩ : ∃ x, l[i]? = some x := ⟨_, List.getElem?_eq_getElem (by have := HN.out; omega)⟩
    have hab := HD.out.ok a (List.mem_of_getElem? ha)
    obtain ⟨ba, oa, rfl, ca⟩ := qbS (HR.out.kept hk) ha
    have HAA := qh ha
    have hin : (i : Int) < n := by omega
    obtain ⟨ht, ht2⟩ := qo7 hab hr9
    have ht3 := ht2 m HV.out.2.2.1
    obtain ⟨t, htt⟩ : ∃ t, t = a * 2 ^ r := ⟨_, rfl⟩
    have htI : (a : Int) * 2 ^ r = (t : Int) := by rw [htt]; simp
    have htw : IntKind.i64.wrap (t : Int) = (t : Int) := IntWalk.i64_in _ (by omega)
    rw [← htt] at ht ht3
    have HT := qh (And.intro htt ht3)
    clear hk ha ht2 ht3 htt
    go_wp2_with (at_builtin; refine qap _ rfl _ _ 207 rfl w.heap.size 3 i0 (.int .i64 0) 1 8 underlying207 hi hi0 hi1 hi2 rfl (by decide) _ (q + i) _ rfl (HOW.out.alloc _) (some ⟨wr.heap.size, 0, none⟩) 1 1 [.int .i64 (((m : Int) + t) % 256)] rfl rfl (Row.qbA _ _ _ _ _ _ rfl rfl) (qca _) ?_ ?_ ?_ ?_)
    ·unfold maxLen; omega
    ·omega
    ·have := HKR.out.size; simp; omega
    ·intro v3 w3 hown3 hg3 hat3
     have HO3 := qh hown3
     have HK3 := qh (qa6 (HKR.out.alloc (HKR.out.size) _) (HOW.out.alloc _) (Nat.le_refl _) (by have := HKR.out.size; simp; omega) hg3)
     clear hown3 hg3 hat3
     go_wp2_with fail
     go_roundg gh
     case measure => omega
     case rel =>
      have e1 : ((m : Int) + t) % 256 = (((m + a * 2 ^ r) % 256 : Nat) : Int) := by rw [← HT.out.1]; omega
      have hO := HO3.out
      rw [e1, ← qbN, List.append_assoc] at hO
      exact ⟨i + 1, (m + a * 2 ^ r) / 256, D ++ [(m + a * 2 ^ r) % 256], by omega, by go_num, by rw [← HT.out.1]; go_num, by simp [HV.out.1], qdO HV.out.2.1 (Nat.mod_lt _ (by omega)), by rw [← HT.out.1, Nat.div_lt_iff_lt_mul (by omega), Nat.mul_comm (2 ^ r)]; exact HT.out.2.1, qkM HV.out.1 HV.out.2.2.2 HAA.out, by rw [← Nat.add_assoc]; exact hO, HK3.out⟩
section
set_option maxHeartbeats 1600000
set_option maxRecDepth 100000
theorem qlw (A A' : Option Addr) (c c' : Nat) (l l' : List Nat) (x y : Nat) (w : World) (hl : l.length ≤ 1000000) (hl' : l'.length ≤ 1000000) (hr : Row w A (qaU l)) (hr' : Row w A' (qaU l')) (hd : D8 l x) (hd' : D8 l' y) :
  Calls prog 136 #[.slice A l.length c, .slice A' l'.length c'] w fun e w' => ∃ v, e = .returned v ∧ qbn w' v (x + y) (max l.length l'.length + 1) ∧ Kept w w' := by
 obtain ⟨i0, hi, hi0, hi1, hi2⟩ := info_parts qdt
 have HR := qh hr
 have HR' := qh hr'
 have HD := qh hd
 have HD' := qh hd'
 clear hr hr' hd hd'
 obtain ⟨n, hn⟩ : ∃ n, n = l.length := ⟨_, rfl⟩
 obtain ⟨k, hk⟩ : ∃ k, k = l'.length := ⟨_, rfl⟩
 have AT1 : Hid (∀ W (i : Nat), i ≤ 1000000 → Kept w W → Calls prog 173 #[.slice A n c, .int .i64 (i : Int)] W fun e w' => e = .returned (.int .i64 (atN l i : Nat)) ∧ W = w') := fun W i hi hkk => by
  rw [hn]
  exact (qfz A c l i W (by omega) (HR.out.kept hkk)).mono fun _ _ h => ⟨h.1, h.2.symm⟩
 have AT2 : Hid (∀ W (i : Nat), i ≤ 1000000 → Kept w W → Calls prog 173 #[.slice A' k c', .int .i64 (i : Int)] W fun e w' => e = .returned (.int .i64 (atN l' i : Nat)) ∧ W = w') := fun W i hi hkk => by
  rw [hk]
  exact (qfz A' c' l' i W (by omega) (HR'.out.kept hkk)).mono fun _ _ h => ⟨h.1, h.2.symm⟩
 rw [← hn] at hl
 rw [← hk] at hl'
 rw [← hn, ← hk]
 have HN := qh (And.intro hn hk)
 clear hn hk
 obtain ⟨N, hN⟩ : ∃ N, N = max n k := ⟨_, rfl⟩
 rw [← hN]
 have hN1 : n ≤ N := by omega
 have hN2 : k ≤ N := by omega
 have hN3 : N ≤ 1000000 := by omega
 have HNN := qh hN
 clear hN
 go_enter func136, ntmps136
 go_wp2_with fail
 go_loopg [5, 6, 7] N (fun gh v5 v6 v7 wr => ∃ (i m : Nat) (D : List Nat), i + gh = N ∧ v7 = .int .i64 i ∧ v6 = .int .i64 m ∧ D.length = i ∧ (∀ z ∈ D, z < 256) ∧ m ≤ 1 ∧ qac 256 D + m * 256 ^ D.length = qac 256 (l.take i) + qac 256 (l'.take i) ∧
  Own wr w.heap.size 1 v5 i (qaU D) ∧ Kept w wr)
 case atStart => exact ⟨0, 0, [], by omega, rfl, rfl, rfl, by simp, by omega, by simp [qac], by simpa [qaU] using Own.nil w w.heap.size 1, Below.refl _ _⟩
 case round =>
  obtain ⟨i, m, D, hig, rfl, rfl, hDl, hDo, hm, hv, ho, hk⟩ := hrel
  have HOW := qh ho
  have HKR := qh hk
  have HV := qh (And.intro hDl (And.intro hDo hv))
  clear hv ho hDo hDl hk
  cases gk with
  | zero =>
   obtain rfl : i = N := by omega
   have h1 : ¬ (i : Int) < n := by omega
   have h2 : ¬ (i : Int) < k := by omega
   go_wp2_with (at_builtin; refine qap _ rfl _ _ 207 rfl w.heap.size 3 i0 (.int .i64 0) 1 8 underlying207 hi hi0 hi1 hi2 rfl (by decide) _ (i) _ rfl (HOW.out.alloc _) (some ⟨wr.heap.size, 0, none⟩) 1 1 [.int .i64 ((m : Int))] rfl rfl (Row.qbA _ _ _ _ _ _ rfl rfl) (qca _) ?_ ?_ ?_ ?_)
   ·unfold maxLen; omega
   ·omega
   ·have := HKR.out.size; simp; omega
   ·intro v3 w3 hown3 hg3 hat3
    have HO3 := qh hown3
    have HK3 := qh (qa6 (HKR.out.alloc (HKR.out.size) _) (HOW.out.alloc _) (Nat.le_refl _) (by have := HKR.out.size; simp; omega) hg3)
    clear hown3 hg3 hat3
    go_wp2_with (go_at_call 161; refine (qeu (base := w.heap.size) (n := i + 1) (m := x + y) (k := i + 1) (L := D ++ [m]) (by rw [qbN]; exact HO3.out) (by simp [HV.out.1]) (by omega) (by omega) (qdO HV.out.2.1 (by omega)) ?_).mono ?_; rotate_left; rintro e w9 ⟨v9, rfl, hd9, rfl⟩)
    ·go_ret
     exact ⟨v9, rfl, hd9, HK3.out⟩
    ·rw [qbt, Nat.mul_comm (256 ^ D.length), HV.out.2.2, List.take_of_length_le (by have := HN.out; omega), List.take_of_length_le (by have := HN.out; omega), HD.out.val, HD'.out.val]
  | succ gh =>
   have ha := qgF HD.out.ok i
   have hb := qgF HD'.out.ok i
   obtain ⟨a, haa⟩ : ∃ a, a = atN l i := ⟨_, rfl⟩
   obtain ⟨b, hbb⟩ : ∃ b, b = atN l' i := ⟨_, rfl⟩
   have C1 : Hid (∀ W, Kept w W → Calls prog 173 #[.slice A n c, .int .i64 (i : Int)] W fun e w' => e = .returned (.int .i64 (a : Int)) ∧ W = w') := fun W hk => by rw [haa]; exact AT1.out W i (by omega) hk
   have C2 : Hid (∀ W, Kept w W → Calls prog 173 #[.slice A' k c', .int .i64 (i : Int)] W fun e w' => e = .returned (.int .i64 (b : Int)) ∧ W = w') := fun W hk => by rw [hbb]; exact AT2.out W i (by omega) hk
   rw [← haa] at ha
   rw [← hbb] at hb
   have HAB := qh (And.intro haa hbb)
   clear haa hbb
   by_cases hin : i < n
   ·have hin2 : (i : Int) < n := by omega
    go_wp2_with (first
     | (go_at_call 173; (with_reducible refine (C1.out _ HKR.out).mono ?_); rintro e w2 ⟨rfl, rfl⟩)
     | (go_at_call 173; (with_reducible refine (C2.out _ HKR.out).mono ?_); rintro e w2 ⟨rfl, rfl⟩)
     | (at_builtin; refine qap _ rfl _ _ 207 rfl w.heap.size 3 i0 (.int .i64 0) 1 8 underlying207 hi hi0 hi1 hi2 rfl (by decide) _ (i) _ rfl (HOW.out.alloc _) (some ⟨wr.heap.size, 0, none⟩) 1 1 [.int .i64 (((m : Int) + a + b) % 256)] rfl rfl (Row.qbA _ _ _ _ _ _ rfl rfl) (qca _) ?_ ?_ ?_ ?_))
    ·unfold maxLen; omega
    ·omega
    ·have := HKR.out.size; simp; omega
    ·intro v3 w3 hown3 hg3 hat3
     have HO3 := qh hown3
     have HK3 := qh (qa6 (HKR.out.alloc (HKR.out.size) _) (HOW.out.alloc _) (Nat.le_refl _) (by have := HKR.out.size; simp; omega) hg3)
     clear hown3 hg3 hat3
     go_wp2_with fail
     go_roundg gh
     case measure => omega
     case rel =>
      have e1 : ((m : Int) + a + b) % 256 = (((m + (a + b)) % 256 : Nat) : Int) := by omega
      have hO := HO3.out
      rw [e1, ← qbN] at hO
      have hs := qgS HV.out.1 HV.out.2.2
      rw [← HAB.out.1, ← HAB.out.2] at hs
      exact ⟨i + 1, (m + (a + b)) / 256, D ++ [(m + (a + b)) % 256], by omega, by go_num, by first | rfl | (congr 1; omega), by simp [HV.out.1], qdO HV.out.2.1 (Nat.mod_lt _ (by omega)), by omega, hs, hO, HK3.out⟩
   ·have hin2 : ¬ (i : Int) < n := by omega
    have hik2 : (i : Int) < k := by have := HNN.out; omega
    go_wp2_with (first
     | (go_at_call 173; (with_reducible refine (C1.out _ HKR.out).mono ?_); rintro e w2 ⟨rfl, rfl⟩)
     | (go_at_call 173; (with_reducible refine (C2.out _ HKR.out).mono ?_); rintro e w2 ⟨rfl, rfl⟩)
     | (at_builtin; refine qap _ rfl _ _ 207 rfl w.heap.size 3 i0 (.int .i64 0) 1 8 underlying207 hi hi0 hi1 hi2 rfl (by decide) _ (i) _ rfl (HOW.out.alloc _) (some ⟨wr.heap.size, 0, none⟩) 1 1 [.int .i64 (((m : Int) + a + b) % 256)] rfl rfl (Row.qbA _ _ _ _ _ _ rfl rfl) (qca _) ?_ ?_ ?_ ?_))
    ·unfold maxLen; omega
    ·omega
    ·have := HKR.out.size; simp; omega
    ·intro v3 w3 hown3 hg3 hat3
     have HO3 := qh hown3
     have HK3 := qh (qa6 (HKR.out.alloc (HKR.out.size) _) (HOW.out.alloc _) (Nat.le_refl _) (by have := HKR.out.size; simp; omega) hg3)
     clear hown3 hg3 hat3
     go_wp2_with fail
     go_roundg gh
     case measure => omega
     case rel =>
      have e1 : ((m : Int) + a + b) % 256 = (((m + (a + b)) % 256 : Nat) : Int) := by omega
      have hO := HO3.out
      rw [e1, ← qbN] at hO
      have hs := qgS HV.out.1 HV.out.2.2
      rw [← HAB.out.1, ← HAB.out.2] at hs
      exact ⟨i + 1, (m + (a + b)) / 256, D ++ [(m + (a + b)) % 256], by omega, by go_num, by first | rfl | (congr 1; omega), by simp [HV.out.1], qdO HV.out.2.1 (Nat.mod_lt _ (by omega)), by omega, hs, hO, HK3.out⟩
theorem qkh (A A' : Option Addr) (c c' : Nat) (l l' : List Nat) (x y : Nat) (w : World) (hl : l.length ≤ 1000000) (hr : Row w A (qaU l)) (hr' : Row w A' (qaU l')) (hd : D8 l x) (hd' : D8 l' y) (hxy : y ≤ x) :
  Calls prog 137 #[.slice A l.length c, .slice A' l'.length c'] w fun e w' => ∃ v, e = .returned v ∧ qbn w' v (x - y) l.length ∧ Kept w w' := by
 obtain ⟨i0, hi, hi0, hi1, hi2⟩ := info_parts qdt
 have hll : l'.length ≤ l.length := by
  rcases Nat.lt_or_ge l.length l'.length with h | h
  ·have := hd.qdq hd' (by omega) h; omega
  ·exact h
 have HR := qh hr
 have HR' := qh hr'
 have HD := qh hd
 have HD' := qh hd'
 clear hr hr' hd hd'
 obtain ⟨n, hn⟩ : ∃ n, n = l.length := ⟨_, rfl⟩
 obtain ⟨k, hk⟩ : ∃ k, k = l'.length := ⟨_, rfl⟩
 have AT2 : Hid (∀ W (i : Nat), i ≤ 1000000 → Kept w W → Calls prog 173 #[.slice A' k c', .int .i64 (i : Int)] W fun e w' => e = .returned (.int .i64 (atN l' i : Nat)) ∧ w' = W) := fun W i hi hkk => by
  rw [hk]
  exact (qfz A' c' l' i W (by omega) (HR'.out.kept hkk)).mono fun _ _ h => h
 rw [← hn] at hl
 rw [← hn, ← hk] at hll
 rw [← hn, ← hk]
 have HN := qh (And.intro hn hk)
 clear hn hk
 go_enter func137, ntmps137
 go_wp2_with fail
 go_loopg [5, 6, 7, 8] n (fun gh v5 v6 v7 v8 wr => ∃ (i m : Nat) (D : List Nat), i + gh = n ∧ v7 = .int .i64 i ∧ v6 = .int .i64 m ∧ D.length = i ∧ (∀ z ∈ D, z < 256) ∧ m ≤ 1 ∧ qac 256 D + qac 256 (l'.take i) = qac 256 (l.take i) + m * 256 ^ D.length ∧
  Own wr w.heap.size 1 v5 i (qaU D) ∧ Kept w wr)
 case atStart => exact ⟨0, 0, [], by omega, rfl, rfl, rfl, by simp, by omega, by simp [qac], by simpa [qaU] using Own.nil w w.heap.size 1, Below.refl _ _⟩
 case round =>
  obtain ⟨i, m, D, hig, rfl, rfl, hDl, hDo, hm, hv, ho, hk⟩ := hrel
  have HOW := qh ho
  have HKR := qh hk
  have HV := qh (And.intro hDl (And.intro hDo hv))
  clear hv ho hDo hDl
  cases gk with
  | zero =>
   obtain rfl : i = n := by omega
   have hF := qh (qko HV.out.1 HV.out.2.1 HV.out.2.2 HN.out.1 HD.out.val (by have := HN.out.2; omega) HD'.out.val hxy)
   go_wp2_with (go_at_call 161; refine (qeu (base := w.heap.size) (n := i) (m := x - y) (k := i) (L := D) HOW.out HV.out.1 (by omega) (by omega) HV.out.2.1 hF.out).mono ?_; rintro e w9 ⟨v9, rfl, hd9, rfl⟩)
   go_ret
   exact ⟨v9, rfl, hd9, HKR.out⟩
  | succ gh =>
   obtain ⟨a, ha⟩ : ∃ x, l[i]? = some x := ⟨_, List.getElem?_eq_getElem (by have := HN.out.1; omega)⟩
   have hab := HD.out.ok a (List.mem_of_getElem? ha)
   obtain ⟨ba, oa, rfl, ca⟩ := qbS (HR.out.kept hk) ha
   have hb := qgF HD'.out.ok i
   obtain ⟨b, hbb⟩ : ∃ b, b = atN l' i := ⟨_, rfl⟩
   have C2 : Hid (∀ W, Kept w W → Calls prog 173 #[.slice A' k c', .int .i64 (i : Int)] W fun e w' => e = .returned (.int .i64 (b : Int)) ∧ w' = W) := fun W hk => by rw [hbb]; exact AT2.out W i (by omega) hk
   rw [← hbb] at hb
   have HAB := qh (And.intro (qdV ha).symm hbb)
   have hin : (i : Int) < n := by omega
   clear ha hbb
   by_cases hlt : a < b + m
   ·have h1 : (a : Int) - b - m < 0 := by omega
    go_wp2_with fail
    go_quiet ((go_at_call 173; with_reducible exact Calls.quiet_of_same (C2.out _ (qaz HKR.out _))))
    have KD := fun q => qh (qaz HKR.out q)
    have OD := fun q => qh (HOW.out.drewN q)
    generalize hW : World.drewN wr _ = w2
    replace KD := hW ▸ KD _
    replace OD := hW ▸ OD _
    clear hW HKR HOW ca hk
    go_wp2_with (at_builtin; refine qap _ rfl _ _ 207 rfl w.heap.size 3 i0 (.int .i64 0) 1 8 underlying207 hi hi0 hi1 hi2 rfl (by decide) _ (i) _ rfl (OD.out.alloc _) (some ⟨w2.heap.size, 0, none⟩) 1 1 [.int .i64 ((a : Int) - b - m + 256)] rfl rfl (Row.qbA _ _ _ _ _ _ rfl rfl) (qca _) ?_ ?_ ?_ ?_)
    ·unfold maxLen; omega
    ·omega
    ·have := KD.out.size; simp; omega
    ·intro v3 w3 hown3 hg3 hat3
     have HO3 := qh hown3
     have HK3 := qh (qa6 (KD.out.alloc (KD.out.size) _) (OD.out.alloc _) (Nat.le_refl _) (by have := KD.out.size; simp; omega) hg3)
     clear hown3 hg3 hat3
     go_wp2_with fail
     go_roundg gh
     case measure => omega
     case rel =>
      have e1 : ((a : Int) - b - m + 256) = ((a + 256 - b - m : Nat) : Int) := by omega
      have hO := HO3.out
      rw [e1, ← qbN] at hO
      exact ⟨i + 1, 1, D ++ [a + 256 - b - m], by omega, by go_num, by first | rfl | (congr 1; omega), by simp [HV.out.1], qdO HV.out.2.1 (by omega), by omega, qf2 HV.out.1 HV.out.2.2 (by rw [← HAB.out.1, ← HAB.out.2]; omega), hO, HK3.out⟩
   ·have h1 : ¬ (a : Int) - b - m < 0 := by omega
    go_wp2_with fail
    go_quiet ((go_at_call 173; with_reducible exact Calls.quiet_of_same (C2.out _ (qaz HKR.out _))))
    have KD := fun q => qh (qaz HKR.out q)
    have OD := fun q => qh (HOW.out.drewN q)
    generalize hW : World.drewN wr _ = w2
    replace KD := hW ▸ KD _
    replace OD := hW ▸ OD _
    clear hW HKR HOW ca hk
    go_wp2_with (at_builtin; refine qap _ rfl _ _ 207 rfl w.heap.size 3 i0 (.int .i64 0) 1 8 underlying207 hi hi0 hi1 hi2 rfl (by decide) _ (i) _ rfl (OD.out.alloc _) (some ⟨w2.heap.size, 0, none⟩) 1 1 [.int .i64 ((a : Int) - b - m)] rfl rfl (Row.qbA _ _ _ _ _ _ rfl rfl) (qca _) ?_ ?_ ?_ ?_)
    ·unfold maxLen; omega
    ·omega
    ·have := KD.out.size; simp; omega
    ·intro v3 w3 hown3 hg3 hat3
     have HO3 := qh hown3
     have HK3 := qh (qa6 (KD.out.alloc (KD.out.size) _) (OD.out.alloc _) (Nat.le_refl _) (by have := KD.out.size; simp; omega) hg3)
     clear hown3 hg3 hat3
     go_wp2_with fail
     go_roundg gh
     case measure => omega
     case rel =>
      have e1 : ((a : Int) - b - m) = ((a - b - m : Nat) : Int) := by omega
      have hO := HO3.out
      rw [e1, ← qbN] at hO
      exact ⟨i + 1, 0, D ++ [a - b - m], by omega, by go_num, by first | rfl | (congr 1; omega), by simp [HV.out.1], qdO HV.out.2.1 (by omega), by omega, qf2 HV.out.1 HV.out.2.2 (by rw [← HAB.out.1, ← HAB.out.2]; omega), hO, HK3.out⟩
theorem qgN (A : Option Addr) (c : Nat) (l : List Nat) (x s : Nat) (w : World) (hl : l.length ≤ 1000000) (hs : s ≤ 8 * l.length) (hr : Row w A (qaU l)) (hd : D8 l x) :
  Calls prog 164 #[.slice A l.length c, .int .i64 (s : Int)] w fun e w' => ∃ v, e = .returned v ∧ qbn w' v (x / 2 ^ s) l.length ∧ Kept w w' := by
 obtain ⟨i0, hi, hi0, hi1, hi2⟩ := info_parts qdt
 have HR := qh hr
 have HD := qh hd
 clear hr hd
 obtain ⟨n, hn⟩ : ∃ n, n = l.length := ⟨_, rfl⟩
 obtain ⟨q, hq⟩ : ∃ q, q = s / 8 := ⟨_, rfl⟩
 obtain ⟨r, hr⟩ : ∃ r, r = s % 8 := ⟨_, rfl⟩
 have AT1 : Hid (∀ W (i : Nat), i ≤ 1000000 → Kept w W → Calls prog 173 #[.slice A n c, .int .i64 (i : Int)] W fun e w' => e = .returned (.int .i64 (atN l i : Nat)) ∧ W = w') := fun W i hi hkk => by
  rw [hn]
  exact (qfz A c l i W (by omega) (HR.out.kept hkk)).mono fun _ _ h => ⟨h.1, h.2.symm⟩
 rw [← hn] at hl hs
 rw [← hn]
 have HN := qh hn
 have HQ := qh (And.intro hq hr)
 have eq1 : (s : Int) / 8 = q := by omega
 have eq2 : (s : Int) % 8 = r := by omega
 have hr9 : r < 8 := by omega
 have hr8 : (r : Int) ≤ 64 := by omega
 have hq9 : q ≤ n := by omega
 have HX := qh (show x / 2 ^ s = x / 2 ^ r / 256 ^ q by rw [Nat.div_div_eq_div_mul, qje, ← Nat.pow_add, show r + 8 * q = s by omega])
 clear hn hq hr
 go_enter func164, ntmps164
 go_wp2_with fail
 go_loopg [5, 6] (n - q) (fun gh v5 v6 wr => ∃ (i j : Nat) (D : List Nat), i + gh = n ∧ i = q + j ∧ v6 = .int .i64 i ∧ D.length = j ∧ (∀ z ∈ D, z < 256) ∧ qac 256 D = x / 2 ^ s % 256 ^ j ∧
  Own wr w.heap.size 1 v5 j (qaU D) ∧ Kept w wr)
 case atStart => exact ⟨q, 0, [], by omega, by omega, rfl, rfl, by simp, by rw [Nat.pow_zero, Nat.mod_one]; rfl, by simpa [qaU] using Own.nil w w.heap.size 1, Below.refl _ _⟩
 case round =>
  obtain ⟨i, j, D, hig, hij, rfl, hDl, hDo, hv, ho, hk⟩ := hrel
  have HOW := qh ho
  have HKR := qh hk
  have HV := qh (And.intro hDl (And.intro hDo hv))
  have HIJ := qh hij
  have hjn : j ≤ n := by omega
  clear hv ho hDo hDl hij
  cases gk with
  | zero =>
   obtain rfl : i = n := by omega
   have hF := qh (show qac 256 D = x / 2 ^ s by
    rw [HV.out.2.2, Nat.mod_eq_of_lt]
    rw [HX.out, Nat.div_lt_iff_lt_mul (Nat.pow_pos (by omega)), ← Nat.pow_add]
    refine Nat.lt_of_le_of_lt (Nat.div_le_self _ _) ?_
    have := HD.out.lt
    rw [← HN.out] at this
    rw [show j + q = i by have := HIJ.out; omega]; exact this)
   go_wp2_with (go_at_call 161; refine (qeu (base := w.heap.size) (n := j) (m := x / 2 ^ s) (k := i) (L := D) HOW.out HV.out.1 (by omega) (by omega) HV.out.2.1 hF.out).mono ?_; rintro e w9 ⟨v9, rfl, hd9, rfl⟩)
   go_ret
   exact ⟨v9, rfl, hd9, HKR.out⟩
  | succ gh =>
   obtain ⟨a, ha⟩ : ∃ x, l[i]? = some x := ⟨_, List.getElem?_eq_getElem (by have := HN.out; omega)⟩
   have hab := HD.out.ok a (List.mem_of_getElem? ha)
   obtain ⟨ba, oa, rfl, c0⟩ := qbS HR.out ha
   have hb := qgF HD.out.ok (i + 1)
   obtain ⟨b, hbb⟩ : ∃ b, b = atN l (i + 1) := ⟨_, rfl⟩
   have C2 : Hid (∀ W, Kept w W → Calls prog 173 #[.slice (some ⟨ba, oa, none⟩) n c, .int .i64 ((i : Int) + 1)] W fun e w' => e = .returned (.int .i64 (b : Int)) ∧ W = w') := fun W hk => by rw [hbb]; exact AT1.out W (i + 1) (by omega) hk
   rw [← hbb] at hb
   have HD2 := qh (qim (r := r) HD.out.ok hr9 (i := i) (by have := HN.out; omega))
   have HAB := qh (And.intro (qdV ha).symm hbb)
   have hin : (i : Int) < n := by omega
   obtain ⟨t, ht⟩ : ∃ t, t = (a + 256 * b) / 2 ^ r := ⟨_, rfl⟩
   have htI : ((a : Int) + 256 * b) / 2 ^ r = (t : Int) := by rw [ht]; simp
   have htb : t < 65536 := by rw [ht]; exact Nat.lt_of_le_of_lt (Nat.div_le_self _ _) (by omega)
   have HT := qh ht
   have w1 : IntKind.i64.wrap ((i : Int) + 1) = (i : Int) + 1 := IntWalk.i64_in _ (by omega)
   have w2 : IntKind.i64.wrap (256 * (b : Int)) = 256 * (b : Int) := IntWalk.i64_in _ (by omega)
   have w3 : IntKind.i64.wrap ((a : Int) + 256 * b) = (a : Int) + 256 * b := IntWalk.i64_in _ (by omega)
   have w4 : (s : Int).tmod 8 = (r : Int) := by rw [Int.tmod_eq_emod_of_nonneg (by omega)]; exact eq2
   have w5 : (t : Int).tmod 256 = (t : Int) % 256 := Int.tmod_eq_emod_of_nonneg (by omega)
   have SK : Hid (∀ W, Kept w W → W.cell? ⟨ba, oa + i, none⟩ = some (.int .i64 (a : Int))) := fun W h => (h.cells _ _ (lt_of_cell c0)).trans c0
   have ca := SK.out _ HKR.out
   have KA : Hid (∀ o, (wr.alloc o).drew.cell? ⟨ba, oa + i, none⟩ = some (.int .i64 (a : Int))) := fun o => SK.out _ (Kept.new HKR.out o).drew
   clear ha hbb ht hk c0
   go_wp2_with fail
   refine qcn (fun X => X.cell? ⟨ba, oa + i, none⟩ = some (.int .i64 (a : Int))) 17 (by kernel_rfl) ?_ (fun hHeld => ?_)
   ·first | exact HS.out | exact SK.out _ HKR.out | exact SK.out _ HKR.out.drew | exact KA.out _ | exact SK.out _ HK3.out | assumption
   refine wL 0 15 ?_
   refine wL 1 16 ?_
   refine wL 2 17 ?_
   refine wL 3 18 ?_
   refine wL 4 19 ?_
   refine wL 5 20 ?_
   refine wL 6 21 ?_
   refine wL 7 22 ?_
   refine wL 11 26 ?_
   refine wL 12 27 ?_
   refine oL 8 fun K hK => ?_
   go_simp
   (refine (C2.out _ HKR.out.drew).mono ?_; rintro e w9 ⟨rfl, rfl⟩; skip)
   refine hK.out _ _ ?_ (fun hHeld => ?_)
   ·first | exact HS.out | exact SK.out _ HKR.out | exact SK.out _ HKR.out.drew | exact KA.out _ | exact SK.out _ HK3.out | assumption
   clear hK K
   try simp only [Act.put, tdy]
   refine wL 9 24 ?_
   refine wL 10 25 ?_
   refine wL 13 28 ?_
   refine wL 14 29 ?_
   refine oL 15 fun K hK => ?_
   go_simp
   refine hK.out _ _ ?_ (fun hHeld => ?_)
   ·first | exact HS.out | exact SK.out _ HKR.out | exact SK.out _ HKR.out.drew | exact KA.out _ | exact SK.out _ HK3.out | assumption
   clear hK K
   try simp only [Act.put, tdy]
   refine oL 16 fun K hK => ?_
   (refine qdd _ rfl _ _ 207 rfl w.heap.size 3 i0 (.int .i64 0) 1 8 underlying207 hi hi0 hi1 hi2 rfl (by decide) _ j _ rfl ((HOW.out.drew).alloc _) (some ⟨wr.heap.size, 0, none⟩) 1 1 [.int .i64 ((t : Int) % 256)] rfl rfl (Row.qbA _ _ _ _ _ _ rfl rfl) (qca _) (by unfold maxLen; omega) (by omega) (by have := HKR.out.size; simp; omega) ?_; intro v3 w3 hown3 hg3 hat3; have HK3 := qh (qa6 (HKR.out.drew.alloc (by have := HKR.out.size; simp; omega) _) ((HOW.out.drew).alloc _) (Nat.le_refl _) (by have := HKR.out.size; simp; omega) hg3);  have HO3 := qh hown3; clear hown3 hg3 hat3)
   refine hK.out _ _ ?_ (fun hHeld => ?_)
   ·first | exact HS.out | exact SK.out _ HKR.out | exact SK.out _ HKR.out.drew | exact KA.out _ | exact SK.out _ HK3.out | assumption
   clear hK K
   try simp only [Act.put, List.setIfInBounds_toArray]
   refine eL fun K hK => ?_
   go_simp
   refine hK.out _ _ ?_
   clear hK K
   try simp only [Act.put, tdy]
   refine dL ?_ _
   go_wp2_with fail
   go_roundg gh
   case measure => omega
   case rel =>
    have e1 : ((t : Int) % 256) = ((x / 2 ^ s / 256 ^ j % 256 : Nat) : Int) := by
     have h1 := HD2.out
     rw [← HAB.out.1, ← HAB.out.2, ← HT.out, HD.out.val] at h1
     rw [show x / 2 ^ s / 256 ^ j = x / 2 ^ r / 256 ^ i by rw [HX.out, HIJ.out, Nat.div_div_eq_div_mul, ← Nat.pow_add], h1]
     omega
    have hO := HO3.out
    rw [e1, ← qbN] at hO
    exact ⟨i + 1, j + 1, D ++ [x / 2 ^ s / 256 ^ j % 256], by omega, by have := HIJ.out; omega, by go_num, by simp [HV.out.1], qdO HV.out.2.1 (Nat.mod_lt _ (by omega)), qi5 HV.out.1 HV.out.2.2, hO, HK3.out⟩
end
theorem Own.qn4 {W : World} {base n p c : Nat} {L : List Nat} (h : Own W base 1 (.slice (some ⟨p, 0, none⟩) n c) n (qaU L)) {j : Nat} (hj : j < n) (x : Nat) : Own (W.setCell ⟨p, j, none⟩ (.int .i64 (x : Int))) base 1 (.slice (some ⟨p, 0, none⟩) n c) n (qaU (L.set j x)) := by
 have := Own.put h (j := j) (by omega) (.int .i64 (x : Int))
 rw [qmF]
 simpa using this
theorem Own.qo2 {W : World} {base n p c : Nat} {L : List Nat} {j x : Nat} (h : Own W base 1 (.slice (some ⟨p, 0, none⟩) n c) n (qaU L)) (hj : L[j]? = some x) : W.cell? ⟨p, j, none⟩ = some (.int .i64 (x : Int)) := by
 obtain ⟨b, off, hA, hc⟩ := qbS h.row hj
 cases hA
 simpa using hc
theorem qj7 {cy a y r : Nat} (hc : cy < 256) (ha : a < 256) (hy : y < 256) (hr : r < 256) : a * y ≤ 65025 ∧ (cy + (r + a * y)) / 256 < 256 := by
 have h1 : a * y ≤ 255 * 255 := Nat.mul_le_mul (by omega) (by omega)
 exact ⟨by omega, by omega⟩
theorem qmO {R l l' : List Nat} {cy i j a y : Nat} (ha : l[i]? = some a) (hj : l'.length ≤ j) (hy : qac 256 l' = y) (hc : cy = 0) (h : qac 256 R + cy * 256 ^ (i + j) = qac 256 (l.take i) * y + 256 ^ i * (a * qac 256 (l'.take j))) :
  qac 256 R = qac 256 (l.take (i + 1)) * y := by
 subst hc
 rw [List.take_of_length_le hj, hy, Nat.zero_mul, Nat.add_zero] at h
 rw [qao l i a ha, Nat.add_mul, Nat.mul_assoc, ← h]
set_option maxRecDepth 100000 in
set_option maxHeartbeats 3200000 in
theorem qjQ (A A' : Option Addr) (c c' : Nat) (l l' : List Nat) (x y : Nat) (w : World) (hl : l.length ≤ 1000000) (hl' : l'.length ≤ 1000000) (hr : Row w A (qaU l)) (hr' : Row w A' (qaU l')) (hd : D8 l x) (hd' : D8 l' y) :
  Calls prog 162 #[.slice A l.length c, .slice A' l'.length c'] w fun e w' => ∃ v, e = .returned v ∧ qbn w' v (x * y) (l.length + l'.length + 1) ∧ Kept w w' := by
 have HR := qh hr
 have HR' := qh hr'
 have HD := qh hd
 have HD' := qh hd'
 clear hr hr' hd hd'
 obtain ⟨n, hn⟩ : ∃ n, n = l.length := ⟨_, rfl⟩
 obtain ⟨k, hk⟩ : ∃ k, k = l'.length := ⟨_, rfl⟩
 have AT2 : Hid (∀ W (i : Nat), i ≤ 1000000000 → Kept w W → Calls prog 173 #[.slice A' k c', .int .i64 (i : Int)] W fun e w' => e = .returned (.int .i64 (atN l' i : Nat)) ∧ w' = W) := fun W i hi hkk => by
  rw [hk]
  exact qfz A' c' l' i W (by omega) (HR'.out.kept hkk)
 rw [← hn] at hl
 rw [← hk] at hl'
 rw [← hn, ← hk]
 have HN := qh (And.intro hn hk)
 clear hn hk
 have mk : ∀ W, (Instr.makeSlice 207 (.int .i64 ((n : Int) + k + 1)) (.int .i64 ((n : Int) + k + 1))).run prog W = .ok (.slice (some ⟨W.heap.size, 0, none⟩) (n + k + 1) (n + k + 1)) (W.alloc (.cells (qaU (List.replicate (n + k + 1) 0)).toArray 3)) := fun W => by
  have := qiR (n + k + 1) (by omega) W
  simpa using this
 go_enter func162, ntmps162
 go_upto_region 2 with fail
 have HO := qh (qk3 w (n + k + 1) (by omega))
 have HK := qh (show Kept w (w.alloc (.cells (qaU (List.replicate (n + k + 1) 0)).toArray 3)) from (Below.refl _ _).alloc (Nat.le_refl _) _)
 generalize (w.alloc (.cells (qaU (List.replicate (n + k + 1) 0)).toArray 3)) = W1 at *
 clear mk
 obtain ⟨N, hN⟩ : ∃ N, N = n + k + 1 := ⟨_, rfl⟩
 rw [← hN] at HO ⊢
 have hN2 : n + k + 1 ≤ N := by omega
 have hN3 : N ≤ 2000001 := by omega
 have HNN := qh hN
 clear hN
 go_wp2_with fail
 go_loopg [6, 7, 8] n (fun gh v6 v7 v8 wr => ∃ (i : Nat) (R : List Nat), i + gh = n ∧ v6 = .int .i64 i ∧ R.length = N ∧ (∀ z ∈ R, z < 256) ∧ (∀ p, i + k ≤ p → p < N → R[p]? = some 0) ∧ qac 256 R = qac 256 (l.take i) * y ∧ Own wr w.heap.size 1 (.slice (some ⟨w.heap.size, 0, none⟩) N N) N (qaU R) ∧ Kept w wr)
 case atStart => exact ⟨0, List.replicate N 0, by omega, rfl, by simp, fun z hz => by rw [(List.mem_replicate.1 hz).2]; omega, fun p _ hp => by simp [hp], by rw [qcQ]; simp [qac], by rw [HNN.out] at HO ⊢; exact HO.out, HK.out⟩
 case round =>
  obtain ⟨i, R, hig, rfl, hRl, hRo, hRz, hv, ho, hk⟩ := hrel
  cases gk with
  | zero =>
   obtain rfl : i = n := by omega
   have HV := qh (show qac 256 R = x * y by rw [hv, List.take_of_length_le (by have := HN.out.1; omega), HD.out.val])
   have HZ := qh (And.intro hRl hRo)
   have HOW := qh ho
   have HKR := qh hk
   clear hv ho hk hRl hRo hRz
   go_wp2_with (go_at_call 161; refine (qeu (base := w.heap.size) (m := x * y) (k := i + k + 1) (L := R) HOW.out HZ.out.1 (by omega) (by have := HNN.out; omega) HZ.out.2 HV.out).mono ?_; rintro e w9 ⟨v9, rfl, hd9, rfl⟩)
   go_ret
   exact ⟨v9, rfl, hd9, HKR.out⟩
  | succ gh =>
   obtain ⟨a, ha⟩ : ∃ x, l[i]? = some x := ⟨_, List.getElem?_eq_getElem (by have := HN.out.1; omega)⟩
   have hab := HD.out.ok a (List.mem_of_getElem? ha)
   obtain ⟨ba, oa, rfl, c0⟩ := qbS HR.out ha
   have SK : Hid (∀ W, Kept w W → W.cell? ⟨ba, oa + i, none⟩ = some (.int .i64 (a : Int))) := fun W h => (h.cells _ _ (lt_of_cell c0)).trans c0
   have HAA := qh ha
   have hin : (i : Int) < n := by omega
   have HKR := qh hk
   have HOW := qh ho
   have HV := qh (And.intro hRl (And.intro hRo (And.intro hRz hv)))
   obtain ⟨Wo, hWo⟩ : ∃ X, X = wr := ⟨_, rfl⟩
   subst hWo
   clear hv ho hk ha hRl hRo hRz c0
   go_wp2_with fail
   go_loopg [7, 8] (k + 1) (fun gh v7 v8 wr => ∃ (j cy : Nat) (R : List Nat), j + gh = k + 1 ∧ v8 = .int .i64 j ∧ v7 = .int .i64 cy ∧ cy < 256 ∧ (k < j → cy = 0) ∧ R.length = N ∧ (∀ z ∈ R, z < 256) ∧ (∀ p, i + max j k ≤ p → p < N → R[p]? = some 0) ∧ qac 256 R + cy * 256 ^ (i + j) = qac 256 (l.take i) * y + 256 ^ i * (a * qac 256 (l'.take j)) ∧ Own wr w.heap.size 1 (.slice (some ⟨w.heap.size, 0, none⟩) N N) N (qaU R) ∧ Kept w wr)
   case atStart => exact ⟨0, 0, R, by omega, rfl, rfl, by omega, fun _ => rfl, HV.out.1, HV.out.2.1, fun p hp => HV.out.2.2.1 p (by omega), by rw [HV.out.2.2.2]; simp [qac], HOW.out, HKR.out⟩
   case round =>
    clear HV HOW HKR
    obtain ⟨j, cy, R2, hjg, rfl, rfl, hcy, hcz, hRl, hRo, hRz, hv, ho, hk⟩ := hrel
    have HKR := qh hk
    have HOW := qh ho
    have HV := qh (And.intro hRl (And.intro hRo (And.intro hRz hv)))
    by_cases hex : k ≤ j ∧ cy = 0
    ·obtain ⟨hkj, rfl⟩ := hex
     have h1 : ¬ (j : Int) < k := by omega
     have HJ := qh (And.intro hkj hjg)
     clear hv ho hk hRl hRo hRz hcz hkj
     go_wp2_with fail
     go_roundg gh
     case measure => omega
     case rel =>
      exact ⟨i + 1, R2, by omega, by go_num, HV.out.1, HV.out.2.1, fun p hp hp2 => HV.out.2.2.1 p (by have := HJ.out; omega) hp2, qmO HAA.out (by have := HN.out.2; have := HJ.out.1; omega) HD'.out.val rfl HV.out.2.2.2, HOW.out, HKR.out⟩
    ·have hjk : j ≤ k := by
      rcases Nat.lt_or_ge k j with h | h
      ·exact absurd ⟨by omega, hcz h⟩ hex
      ·exact h
     obtain ⟨gj, rfl⟩ : ∃ g, gk = g + 1 := ⟨gk - 1, by omega⟩
     have hb := qgF HD'.out.ok j
     obtain ⟨b, hbb⟩ : ∃ b, b = atN l' j := ⟨_, rfl⟩
     have C2 : Hid (∀ W, Kept w W → Calls prog 173 #[.slice A' k c', .int .i64 (j : Int)] W fun e w' => e = .returned (.int .i64 (b : Int)) ∧ w' = W) := fun W hk => by rw [hbb]; exact AT2.out W j (by omega) hk
     rw [← hbb] at hb
     have HBB := qh hbb
     obtain ⟨r, hr⟩ : ∃ x, R2[i + j]? = some x := ⟨_, List.getElem?_eq_getElem (by omega)⟩
     have hrb := hRo r (List.mem_of_getElem? hr)
     have HRR := qh hr
     have KD := fun q => qh (qaz HKR.out q)
     have OD := fun q => qh (HOW.out.drewN q)
     have cR := ho.qo2 hr
     have ca := SK.out _ HKR.out
     have hij : (i : Int) + j < N := by omega
     have e1 : ((a : Int) * b) = ((a * b : Nat) : Int) := by simp
     obtain ⟨g1, g4⟩ := qj7 hcy hab hb hrb
     have HG4 := qh g4
     obtain ⟨m, hm⟩ : ∃ m, m = a * b := ⟨_, rfl⟩
     rw [← hm] at e1 g1
     have HM := qh hm
     have hgo : ((j : Int) < k) ∨ (¬ (j : Int) < k ∧ (0 : Int) < cy) := by
      rcases Nat.lt_or_ge j k with h | h
      ·exact .inl (by omega)
      ·exact .inr ⟨by omega, by have : cy ≠ 0 := fun e => hex ⟨h, e⟩
                                omega⟩
     have HJK := qh (And.intro hjk hjg)
     clear hv ho hk hr hRl hRo hRz hm g4 hex hcz hbb HOW
     rcases hgo with h1 | ⟨h1, h2⟩
     all_goals
      go_wp2_with fail
      go_quiet ((go_at_call 173; with_reducible exact Calls.quiet_of_same (C2.out _ (KD _).out)))
      generalize hW : World.drewN wr _ = w2
      have HK2 := qh (show Kept w w2 from hW ▸ (KD _).out)
      have HO2 := qh (show Own w2 w.heap.size 1 (.slice (some ⟨w.heap.size, 0, none⟩) N N) N (qaU R2) from hW ▸ (OD _).out)
      clear hW KD OD cR ca
      obtain ⟨⟨u0, c0⟩, f0⟩ := HO2.out.free (j := i + j) (by omega)
      go_wp2_with fail
      go_roundg gj
      case measure => omega
      case rel =>
       have e2 : ((cy : Int) + r + m) % 256 = (((cy + (r + a * b)) % 256 : Nat) : Int) := by rw [← HM.out]; omega
       have hst := qlZ (R := R2) (l' := l') (cy := cy) (p := i + j) (i := i) (j := j) (a := a) (r := r) (S := qac 256 (l.take i) * y) rfl HRR.out HV.out.2.2.2
       rw [← HBB.out] at hst
       rw [e2]
       refine ⟨j + 1, (cy + (r + a * b)) / 256, R2.set (i + j) ((cy + (r + a * b)) % 256), by have := HJK.out.2; omega, by go_num, by rw [← HM.out]; first | rfl | (congr 1; omega), HG4.out, fun hkj => ?_, by simp [HV.out.1], qnX HV.out.2.1 (Nat.mod_lt _ (by omega)), fun p hp hp2 => by rw [List.getElem?_set_ne (by omega)]; exact HV.out.2.2.1 p (by omega) hp2, hst, HO2.out.qn4 (by omega) _, HK2.out.setCell (p := ⟨w.heap.size, i + j, none⟩) (Nat.le_refl _) _⟩
       have hjk2 : j = k := by have := HJK.out.1; omega
       have hb0 : b = 0 := by rw [HBB.out, qfe (by have := HN.out.2; omega)]
       have hr0 : r = 0 := by have := HV.out.2.2.1 (i + j) (by omega) (by omega); rw [HRR.out] at this; exact Option.some.inj this
       rw [hb0, hr0, Nat.mul_zero]
       omega
set_option maxRecDepth 100000 in
set_option maxHeartbeats 1600000 in
theorem qi8 (p r q : Nat) (b0 : Bool) (u : Value) (x y : Int) (k j : Nat) (w : World) (hx : qaq w p x k) (hy : qaq w r y j) (hk : k ≤ 100000000) (hj : j ≤ 100000000) (hq : qaY w q b0 u) (hu : ∀ x : Int, u ≠ .int .u32 x) :
  Calls prog 134 #[.pointer (some ⟨q, 0, none⟩), .pointer (some ⟨p, 0, none⟩), .pointer (some ⟨r, 0, none⟩)] w fun e w' => e = .returned (.pointer (some ⟨q, 0, none⟩)) ∧ qaq w' q (x + y) (max k j + 1) ∧ w.grownBy w' (some q) := by
 obtain ⟨v, hb, A, c, l, rfl, hlc, hl, hr, hdl⟩ := hx
 obtain ⟨v', hb', A', c', l', rfl, hlc', hl', hr', hdl'⟩ := hy
 have C0 : Hid (∀ W, Kept w W → Calls prog 155 #[.slice A l.length c, .slice A' l'.length c'] W fun e w' => e = .returned (.int .i64 (qbD x.natAbs y.natAbs)) ∧ Kept W w') := fun W h =>
  (qgZ A A' c c' l l' x.natAbs y.natAbs W (by omega) (by omega) (hr.kept h) (hr'.kept h) hdl hdl').mono fun e w' ⟨h1, m, h2⟩ => ⟨h1, by rw [h2]; exact qaz (Below.refl _ _) m⟩
 by_cases hbs : decide (x < 0) = decide (y < 0)
 ·have hb9 : (x < 0 ↔ y < 0) := by simpa using hbs
  have C1 : Hid (∀ W, Kept w W → Calls prog 170 #[.slice A l.length c, .slice A' l'.length c'] W fun e w' => ∃ v, e = .returned v ∧ qbR w' v (x.natAbs + y.natAbs) (max k j + 1) ∧ Kept W w') := fun W h =>
   (qls A A' c c' l l' x.natAbs y.natAbs W (by omega) (by omega) (hr.kept h) (hr'.kept h) hdl hdl').mono fun e w' ⟨v, h1, h2, h3⟩ => ⟨v, h1, h2.more (by omega), h3⟩
  have C2 : Hid (∀ W v, Kept w W → qbR W v (x.natAbs + y.natAbs) (max k j + 1) → Calls prog 152 #[.pointer (some ⟨q, 0, none⟩), .bool (decide (x < 0)), v] W fun e w' => e = .returned (.pointer (some ⟨q, 0, none⟩)) ∧ qaq w' q (x + y) (max k j + 1) ∧ W.grownBy w' (some q)) := fun W v h hd =>
   qbM q b0 _ u v (x + y) (x.natAbs + y.natAbs) _ W (hq.kept h) hu hd (by omega) (by rw [Bool.eq_iff_iff]; simp only [Bool.and_eq_true, decide_eq_true_eq]; omega)
  obtain ⟨b, hbv⟩ : ∃ b, b = decide (x < 0) := ⟨_, rfl⟩
  obtain ⟨b', hbv'⟩ : ∃ b, b = decide (y < 0) := ⟨_, rfl⟩
  obtain ⟨s, hs⟩ : ∃ s, s = qbD x.natAbs y.natAbs := ⟨_, rfl⟩
  have hbb : (b == b') = true := by rw [hbv, hbv']; exact beq_iff_eq.2 hbs
  rw [← hbv] at hb
  rw [← hbv'] at hb'
  rw [← hbv] at C2
  rw [← hs] at C0
  have SK : Hid (∀ W, Kept w W → W.cell? ⟨p, 0, none⟩ = some (.bool b) ∧ W.cell? ⟨p, 1, none⟩ = some (.slice A l.length c) ∧ W.cell? ⟨r, 0, none⟩ = some (.bool b') ∧ W.cell? ⟨r, 1, none⟩ = some (.slice A' l'.length c')) := fun W h => ⟨(hb.kept h).c0, (hb.kept h).c1, (hb'.kept h).c0, (hb'.kept h).c1⟩
  have HS := qh (SK.out w (Below.refl _ _))
  clear hbv hb hr hdl hbv' hb' hr' hdl' hq hu hs hbs
  go_enter func134, ntmps134
  go_upto_region 1 with fail
  refine qcn (fun W => W.cell? ⟨p, 0, none⟩ = some (.bool b) ∧ W.cell? ⟨p, 1, none⟩ = some (.slice A l.length c) ∧ W.cell? ⟨r, 0, none⟩ = some (.bool b') ∧ W.cell? ⟨r, 1, none⟩ = some (.slice A' l'.length c')) 9 (by kernel_rfl) ?_ (fun hHeld => ?_)
  ·first | exact HS.out | assumption
  refine wL 0 8 ?_
  refine wL 1 9 ?_
  refine wL 2 10 ?_
  refine wL 3 11 ?_
  refine wL 4 12 ?_
  refine wL 5 13 ?_
  refine wL 6 14 ?_
  refine wL 7 15 ?_
  refine oL 8 fun K hK => ?_
  go_simp
  (refine (C0.out _ ((Below.refl _ _).drew)).mono ?_; rintro e w6 ⟨rfl, hk6⟩; have K6 : Kept w w6 := ((Below.refl _ w).drew).trans hk6; have hS6 := SK.out w6 K6)
  refine hK.out _ _ ?_ (fun hHeld => ?_)
  ·first | exact HS.out | assumption
  clear hK K
  try simp only [Act.put, tdy]
  refine eL fun K hK => ?_
  go_simp
  refine hK.out _ _ ?_
  clear hK K
  try simp only [Act.put, tdy]
  refine dL ?_ _
  go_wp2_with fail
  obtain ⟨s0, s1, s2, s3⟩ := SK.out w6 K6
  go_quiet (fail)
  have K7 := qh (show Kept w (w6.drewN nq) from qaz K6 nq)
  have hS7 := qh (SK.out _ K7.out)
  generalize w6.drewN nq = w7 at *
  clear s0 s1 s2 s3 hS6 K6 hk6
  go_wp2_with fail
  refine qab (fun W => W.cell? ⟨p, 0, none⟩ = some (.bool b) ∧ W.cell? ⟨p, 1, none⟩ = some (.slice A l.length c) ∧ W.cell? ⟨r, 0, none⟩ = some (.bool b') ∧ W.cell? ⟨r, 1, none⟩ = some (.slice A' l'.length c')) [14,15] (by kernel_rfl) ?_ (fun hHeld => ?_)
  ·first | exact hS7.out | assumption
  refine wS 0 42 ?_
  refine wS 1 43 ?_
  refine wS 2 44 ?_
  refine wS 3 45 ?_
  refine wS 4 46 ?_
  refine wS 5 47 ?_
  refine wS 6 48 ?_
  refine wS 7 49 ?_
  refine wS 8 50 ?_
  refine wS 9 51 ?_
  refine wS 10 52 ?_
  refine wS 11 53 ?_
  refine wS 12 54 ?_
  refine oS 13 fun K hK => ?_
  go_simp
  (refine (C1.out _ (Below.drew K7.out)).mono ?_; rintro e w8 ⟨v8, rfl, hd8, hk8⟩; have K8 : Kept w w8 := Below.trans K7.out (Below.mono (show Below w7.heap.size w7 w8 from (Below.refl _ w7).drew.trans hk8) (Below.size K7.out)); have hS8 := SK.out w8 K8)
  refine hK.out _ _ ?_ (fun hHeld => ?_)
  ·first | exact hS7.out | assumption
  clear hK K
  try simp only [Act.put, tdy]
  refine eS 14 fun K hK => ?_
  go_simp
  (refine (C2.out _ _ K8 hd8).mono ?_; rintro e w9 ⟨rfl, h9, hg9⟩)
  refine hK.out _ _ ?_
  clear hK K
  try simp only [Act.put, tdy]
  refine eS 15 fun K hK => ?_
  go_simp
  refine hK.out _ _ ?_
  clear hK K
  try simp only [Act.put, tdy]
  refine dS ?_ _
  go_wp2_with fail
  go_ret
  exact ⟨rfl, h9, qbe K8 hg9⟩
 ·have hb9 : ¬ (x < 0 ↔ y < 0) := by simpa using hbs
  by_cases hlt : x.natAbs < y.natAbs
  ·skip
   have C1 : Hid (∀ W, Kept w W → Calls prog 171 #[.slice A' l'.length c', .slice A l.length c] W fun e w' => ∃ v, e = .returned v ∧ qbR w' v (y.natAbs - x.natAbs) (max k j + 1) ∧ Kept W w') := fun W h =>
    (qhJ A' A c' c l' l y.natAbs x.natAbs W (by omega) (hr'.kept h) (hr.kept h) hdl' hdl (by omega)).mono fun e w' ⟨v, h1, h2, h3⟩ => ⟨v, h1, h2.more (by omega), h3⟩
   have C2 : Hid (∀ W v, Kept w W → qbR W v (y.natAbs - x.natAbs) (max k j + 1) → Calls prog 152 #[.pointer (some ⟨q, 0, none⟩), .bool (decide (y < 0)), v] W fun e w' => e = .returned (.pointer (some ⟨q, 0, none⟩)) ∧ qaq w' q (x + y) (max k j + 1) ∧ W.grownBy w' (some q)) := fun W v h hd =>
    qbM q b0 _ u v (x + y) (y.natAbs - x.natAbs) _ W (hq.kept h) hu hd (by omega) (by rw [Bool.eq_iff_iff]; simp only [Bool.and_eq_true, decide_eq_true_eq]; omega)
   obtain ⟨b, hbv⟩ : ∃ b, b = decide (x < 0) := ⟨_, rfl⟩
   obtain ⟨b', hbv'⟩ : ∃ b, b = decide (y < 0) := ⟨_, rfl⟩
   obtain ⟨s, hs⟩ : ∃ s, s = qbD x.natAbs y.natAbs := ⟨_, rfl⟩
   have hbb : (b == b') = false := by rw [hbv, hbv']; exact beq_eq_false_iff_ne.2 hbs
   rw [← hbv] at hb
   rw [← hbv'] at hb'
   rw [← hbv'] at C2
   rw [← hs] at C0
   have hsg : s < 0 := by rw [hs]; rw [qcv hlt]; omega
   have SK : Hid (∀ W, Kept w W → W.cell? ⟨p, 0, none⟩ = some (.bool b) ∧ W.cell? ⟨p, 1, none⟩ = some (.slice A l.length c) ∧ W.cell? ⟨r, 0, none⟩ = some (.bool b') ∧ W.cell? ⟨r, 1, none⟩ = some (.slice A' l'.length c')) := fun W h => ⟨(hb.kept h).c0, (hb.kept h).c1, (hb'.kept h).c0, (hb'.kept h).c1⟩
   have HS := qh (SK.out w (Below.refl _ _))
   clear hbv hb hr hdl hbv' hb' hr' hdl' hq hu hs hbs
   go_enter func134, ntmps134
   go_upto_region 1 with fail
   refine qcn (fun W => W.cell? ⟨p, 0, none⟩ = some (.bool b) ∧ W.cell? ⟨p, 1, none⟩ = some (.slice A l.length c) ∧ W.cell? ⟨r, 0, none⟩ = some (.bool b') ∧ W.cell? ⟨r, 1, none⟩ = some (.slice A' l'.length c')) 9 (by kernel_rfl) ?_ (fun hHeld => ?_)
   ·first | exact HS.out | assumption
   refine wL 0 8 ?_
   refine wL 1 9 ?_
   refine wL 2 10 ?_
   refine wL 3 11 ?_
   refine wL 4 12 ?_
   refine wL 5 13 ?_
   refine wL 6 14 ?_
   refine wL 7 15 ?_
   refine oL 8 fun K hK => ?_
   go_simp
   (refine (C0.out _ ((Below.refl _ _).drew)).mono ?_; rintro e w6 ⟨rfl, hk6⟩; have K6 : Kept w w6 := ((Below.refl _ w).drew).trans hk6; have hS6 := SK.out w6 K6)
   refine hK.out _ _ ?_ (fun hHeld => ?_)
   ·first | exact HS.out | assumption
   clear hK K
   try simp only [Act.put, tdy]
   refine eL fun K hK => ?_
   go_simp
   refine hK.out _ _ ?_
   clear hK K
   try simp only [Act.put, tdy]
   refine dL ?_ _
   go_wp2_with fail
   obtain ⟨s0, s1, s2, s3⟩ := SK.out w6 K6
   go_quiet (fail)
   have K7 := qh (show Kept w (w6.drewN nq) from qaz K6 nq)
   have hS7 := qh (SK.out _ K7.out)
   generalize w6.drewN nq = w7 at *
   clear s0 s1 s2 s3 hS6 K6 hk6
   go_wp2_with fail
   refine qab (fun W => W.cell? ⟨p, 0, none⟩ = some (.bool b) ∧ W.cell? ⟨p, 1, none⟩ = some (.slice A l.length c) ∧ W.cell? ⟨r, 0, none⟩ = some (.bool b') ∧ W.cell? ⟨r, 1, none⟩ = some (.slice A' l'.length c')) [14,15] (by kernel_rfl) ?_ (fun hHeld => ?_)
   ·first | exact hS7.out | assumption
   refine wS 0 60 ?_
   refine wS 1 61 ?_
   refine wS 2 62 ?_
   refine wS 3 63 ?_
   refine wS 4 64 ?_
   refine wS 5 65 ?_
   refine wS 6 66 ?_
   refine wS 7 67 ?_
   refine wS 8 68 ?_
   refine wS 9 69 ?_
   refine wS 10 70 ?_
   refine wS 11 71 ?_
   refine wS 12 72 ?_
   refine oS 13 fun K hK => ?_
   go_simp
   (refine (C1.out _ (Below.drew K7.out)).mono ?_; rintro e w8 ⟨v8, rfl, hd8, hk8⟩; have K8 : Kept w w8 := Below.trans K7.out (Below.mono (show Below w7.heap.size w7 w8 from (Below.refl _ w7).drew.trans hk8) (Below.size K7.out)); have hS8 := SK.out w8 K8)
   refine hK.out _ _ ?_ (fun hHeld => ?_)
   ·first | exact hS7.out | assumption
   clear hK K
   try simp only [Act.put, tdy]
   refine eS 14 fun K hK => ?_
   go_simp
   (refine (C2.out _ _ K8 hd8).mono ?_; rintro e w9 ⟨rfl, h9, hg9⟩)
   refine hK.out _ _ ?_
   clear hK K
   try simp only [Act.put, tdy]
   refine eS 15 fun K hK => ?_
   go_simp
   refine hK.out _ _ ?_
   clear hK K
   try simp only [Act.put, tdy]
   refine dS ?_ _
   go_wp2_with fail
   go_ret
   exact ⟨rfl, h9, qbe K8 hg9⟩
  ·skip
   have C1 : Hid (∀ W, Kept w W → Calls prog 171 #[.slice A l.length c, .slice A' l'.length c'] W fun e w' => ∃ v, e = .returned v ∧ qbR w' v (x.natAbs - y.natAbs) (max k j + 1) ∧ Kept W w') := fun W h =>
    (qhJ A A' c c' l l' x.natAbs y.natAbs W (by omega) (hr.kept h) (hr'.kept h) hdl hdl' (by omega)).mono fun e w' ⟨v, h1, h2, h3⟩ => ⟨v, h1, h2.more (by omega), h3⟩
   have C2 : Hid (∀ W v, Kept w W → qbR W v (x.natAbs - y.natAbs) (max k j + 1) → Calls prog 152 #[.pointer (some ⟨q, 0, none⟩), .bool (decide (x < 0)), v] W fun e w' => e = .returned (.pointer (some ⟨q, 0, none⟩)) ∧ qaq w' q (x + y) (max k j + 1) ∧ W.grownBy w' (some q)) := fun W v h hd =>
    qbM q b0 _ u v (x + y) (x.natAbs - y.natAbs) _ W (hq.kept h) hu hd (by omega) (by rw [Bool.eq_iff_iff]; simp only [Bool.and_eq_true, decide_eq_true_eq]; omega)
   obtain ⟨b, hbv⟩ : ∃ b, b = decide (x < 0) := ⟨_, rfl⟩
   obtain ⟨b', hbv'⟩ : ∃ b, b = decide (y < 0) := ⟨_, rfl⟩
   obtain ⟨s, hs⟩ : ∃ s, s = qbD x.natAbs y.natAbs := ⟨_, rfl⟩
   have hbb : (b == b') = false := by rw [hbv, hbv']; exact beq_eq_false_iff_ne.2 hbs
   rw [← hbv] at hb
   rw [← hbv'] at hb'
   rw [← hbv] at C2
   rw [← hs] at C0
   have hsg : ¬ s < 0 := by rw [hs]; unfold qbD; rw [if_neg hlt]; split <;> omega
   have SK : Hid (∀ W, Kept w W → W.cell? ⟨p, 0, none⟩ = some (.bool b) ∧ W.cell? ⟨p, 1, none⟩ = some (.slice A l.length c) ∧ W.cell? ⟨r, 0, none⟩ = some (.bool b') ∧ W.cell? ⟨r, 1, none⟩ = some (.slice A' l'.length c')) := fun W h => ⟨(hb.kept h).c0, (hb.kept h).c1, (hb'.kept h).c0, (hb'.kept h).c1⟩
   have HS := qh (SK.out w (Below.refl _ _))
   clear hbv hb hr hdl hbv' hb' hr' hdl' hq hu hs hbs
   go_enter func134, ntmps134
   go_upto_region 1 with fail
   refine qcn (fun W => W.cell? ⟨p, 0, none⟩ = some (.bool b) ∧ W.cell? ⟨p, 1, none⟩ = some (.slice A l.length c) ∧ W.cell? ⟨r, 0, none⟩ = some (.bool b') ∧ W.cell? ⟨r, 1, none⟩ = some (.slice A' l'.length c')) 9 (by kernel_rfl) ?_ (fun hHeld => ?_)
   ·first | exact HS.out | assumption
   refine wL 0 8 ?_
   refine wL 1 9 ?_
   refine wL 2 10 ?_
   refine wL 3 11 ?_
   refine wL 4 12 ?_
   refine wL 5 13 ?_
   refine wL 6 14 ?_
   refine wL 7 15 ?_
   refine oL 8 fun K hK => ?_
   go_simp
   (refine (C0.out _ ((Below.refl _ _).drew)).mono ?_; rintro e w6 ⟨rfl, hk6⟩; have K6 : Kept w w6 := ((Below.refl _ w).drew).trans hk6; have hS6 := SK.out w6 K6)
   refine hK.out _ _ ?_ (fun hHeld => ?_)
   ·first | exact HS.out | assumption
   clear hK K
   try simp only [Act.put, tdy]
   refine eL fun K hK => ?_
   go_simp
   refine hK.out _ _ ?_
   clear hK K
   try simp only [Act.put, tdy]
   refine dL ?_ _
   go_wp2_with fail
   obtain ⟨s0, s1, s2, s3⟩ := SK.out w6 K6
   go_quiet (fail)
   have K7 := qh (show Kept w (w6.drewN nq) from qaz K6 nq)
   have hS7 := qh (SK.out _ K7.out)
   generalize w6.drewN nq = w7 at *
   clear s0 s1 s2 s3 hS6 K6 hk6
   go_wp2_with fail
   refine qab (fun W => W.cell? ⟨p, 0, none⟩ = some (.bool b) ∧ W.cell? ⟨p, 1, none⟩ = some (.slice A l.length c) ∧ W.cell? ⟨r, 0, none⟩ = some (.bool b') ∧ W.cell? ⟨r, 1, none⟩ = some (.slice A' l'.length c')) [14,15] (by kernel_rfl) ?_ (fun hHeld => ?_)
   ·first | exact hS7.out | assumption
   refine wS 0 17 ?_
   refine wS 1 18 ?_
   refine wS 2 19 ?_
   refine wS 3 20 ?_
   refine wS 4 21 ?_
   refine wS 5 22 ?_
   refine wS 6 23 ?_
   refine wS 7 24 ?_
   refine wS 8 25 ?_
   refine wS 9 26 ?_
   refine wS 10 27 ?_
   refine wS 11 28 ?_
   refine wS 12 29 ?_
   refine oS 13 fun K hK => ?_
   go_simp
   (refine (C1.out _ (Below.drew K7.out)).mono ?_; rintro e w8 ⟨v8, rfl, hd8, hk8⟩; have K8 : Kept w w8 := Below.trans K7.out (Below.mono (show Below w7.heap.size w7 w8 from (Below.refl _ w7).drew.trans hk8) (Below.size K7.out)); have hS8 := SK.out w8 K8)
   refine hK.out _ _ ?_ (fun hHeld => ?_)
   ·first | exact hS7.out | assumption
   clear hK K
   try simp only [Act.put, tdy]
   refine eS 14 fun K hK => ?_
   go_simp
   (refine (C2.out _ _ K8 hd8).mono ?_; rintro e w9 ⟨rfl, h9, hg9⟩)
   refine hK.out _ _ ?_
   clear hK K
   try simp only [Act.put, tdy]
   refine eS 15 fun K hK => ?_
   go_simp
   refine hK.out _ _ ?_
   clear hK K
   try simp only [Act.put, tdy]
   refine dS ?_ _
   go_wp2_with fail
   go_ret
   exact ⟨rfl, h9, qbe K8 hg9⟩
end Go.Proofs.YtfdnledkcongaaaGreatDoor
