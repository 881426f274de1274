/- Texts of one claim laid together: DoF, DoG, DyA, DyB, DyC, DyE, DoH, FltE, FloW. -/
import Derived.Test.YtfdnledkcongaaaGreatDoorQ3
import Derived.Laws.Externs
import Derived.IntWalk
import Derived.Test.YtfdnledkcongaaaGreatDoorRows
set_option linter.all false
namespace Go.Proofs.YtfdnledkcongaaaGreatDoor
open Go.RowKit Go.Proofs.Tryz
theorem D8.bytes {l : List Nat} {n : Nat} (h : D8 l n) : l.length = (qay n).length := by rw [qaR, h.qkQ (by omega)]
theorem D8.byte {l : List Nat} {n i d : Nat} (h : D8 l n) (hd : l[i]? = some d) : d = n / 256 ^ i % 256 := by
 have := qey l (by omega) h.ok i d hd
 rw [h.val] at this; exact this.symm
set_option maxRecDepth 100000 in
set_option maxHeartbeats 1600000 in
theorem qlq (A : Option Addr) (c : Nat) (l : List Nat) (n : Nat) (w : World) (hl : l.length ≤ 1000000) (hr : Row w A (qaU l)) (hd : D8 l n) :
  Calls prog 183 #[.slice A l.length c] w fun e w' => e = .returned (.string (qa8 n)) ∧ Kept w w' := by
 have HR := qh hr
 have HD := qh hd
 obtain ⟨m, hm⟩ : ∃ m, m = l.length := ⟨_, rfl⟩
 rw [← hm] at hl ⊢
 have HM := qh hm
 have hgo : (¬ (0 : Int) < m) ∨ (∃ (b off t : Nat), A = some ⟨b, off, none⟩ ∧ (0 : Int) < m ∧ ¬ (t : Int) = 0 ∧ w.cell? ⟨b, off + (m - 1), none⟩ = some (.int .i64 (t : Nat))) := by
  rcases Nat.eq_zero_or_pos m with h | h
  ·exact .inl (by omega)
  ·have hx : l[m - 1]? = some (l[m - 1]'(by omega)) := List.getElem?_eq_getElem _
   obtain ⟨b, off, hA, hc⟩ := qbS hr hx
   refine .inr ⟨b, off, _, hA, by omega, ?_, hc⟩
   intro e
   have := hd.top
   rw [List.getLast?_eq_getElem?, ← hm, hx] at this
   exact this (by congr 1; omega)
 have mk := qig m (by omega)
 clear hr hd hm
 rcases hgo with h1 | ⟨b1, off1, t1, rfl, h1, h2, c1⟩
 ·go_enter func183, ntmps183
  go_wp2_with fail
  go_loopg [3] 0 (fun gh v3 wr => v3 = .int .i64 (m : Int) ∧ wr = w)
  case atStart => exact ⟨rfl, rfl⟩
  case round =>
   obtain ⟨rfl, rfl⟩ := hrel
   go_upto_region 5 with fail
   have HO := qh (qir wr m (by omega))
   have HK := qh (show Kept wr (wr.alloc (.cells (qdc m) 5)) from (Below.refl _ _).alloc (Nat.le_refl _) _)
   obtain ⟨g, hg⟩ : ∃ g, g = wr.heap.size := ⟨_, rfl⟩
   rw [← hg] at HO ⊢
   have HG := qh hg
   obtain ⟨w0, hw0⟩ : ∃ w0, w0 = wr := ⟨_, rfl⟩
   subst hw0
   generalize (World.alloc w0 (.cells (qdc m) 5)) = W1 at *
   clear mk hg
   go_wp2_with fail
   go_loopg [5] 0 (fun gh v5 wr => ∃ (i : Nat) (L : List UInt8), i + gh = 0 ∧ v5 = .int .i64 i ∧ L.length = m ∧ (∀ j, j < i → L[m - 1 - j]? = some (UInt8.ofNat (n / 256 ^ j % 256))) ∧
    Own wr g 1 (.slice (some ⟨g, 0, none⟩) m m) m (bytesV L) ∧ Kept w0 wr)
   case atStart => exact ⟨0, List.replicate m 0, by omega, rfl, by simp, fun j hj => by omega, HO.out, HK.out⟩
   case round =>
    obtain ⟨i, L, hig, rfl, hL, hv, ho, hk1⟩ := hrel
    have HV := qh hv
    have HOW := qh ho
    have HKR := qh hk1
    obtain rfl : i = m := by omega
    have hF : L = qay n := qeJ (by rw [hL, HM.out, HD.out.bytes, qaR]) (fun q hq => by rw [hL]; exact hv q (by omega))
    have kv : (convert 97 9 (.slice (some ⟨g, 0, none⟩) i i)).run prog wr = .ok (.string (qa8 n)) wr := by
     have := qev (P := prog) (src := 97) (dst := 9) (e := 5) underlying97 underlying5 underlying9 hL ho.row (c := i)
     rw [this, hF]; rfl
    clear hv ho hk1 hF
    go_wp2_with fail
    go_ret
    exact ⟨rfl, HKR.out⟩
 ·go_enter func183, ntmps183
  go_wp2_with fail
  go_loopg [3] 0 (fun gh v3 wr => v3 = .int .i64 (m : Int) ∧ wr = w)
  case atStart => exact ⟨rfl, rfl⟩
  case round =>
   obtain ⟨rfl, rfl⟩ := hrel
   go_upto_region 5 with fail
   have HO := qh (qir wr m (by omega))
   have HK := qh (show Kept wr (wr.alloc (.cells (qdc m) 5)) from (Below.refl _ _).alloc (Nat.le_refl _) _)
   obtain ⟨g, hg⟩ : ∃ g, g = wr.heap.size := ⟨_, rfl⟩
   rw [← hg] at HO ⊢
   have HG := qh hg
   obtain ⟨w0, hw0⟩ : ∃ w0, w0 = wr := ⟨_, rfl⟩
   subst hw0
   generalize (World.alloc w0 (.cells (qdc m) 5)) = W1 at *
   clear mk hg
   go_wp2_with fail
   go_loopg [5] m (fun gh v5 wr => ∃ (i : Nat) (L : List UInt8), i + gh = m ∧ v5 = .int .i64 i ∧ L.length = m ∧ (∀ j, j < i → L[m - 1 - j]? = some (UInt8.ofNat (n / 256 ^ j % 256))) ∧
    Own wr g 1 (.slice (some ⟨g, 0, none⟩) m m) m (bytesV L) ∧ Kept w0 wr)
   case atStart => exact ⟨0, List.replicate m 0, by omega, rfl, by simp, fun j hj => by omega, HO.out, HK.out⟩
   case round =>
    obtain ⟨i, L, hig, rfl, hL, hv, ho, hk1⟩ := hrel
    have HV := qh hv
    have HOW := qh ho
    have HKR := qh hk1
    cases gk with
    | zero =>
     obtain rfl : i = m := by omega
     have hF : L = qay n := qeJ (by rw [hL, HM.out, HD.out.bytes, qaR]) (fun q hq => by rw [hL]; exact hv q (by omega))
     have kv : (convert 97 9 (.slice (some ⟨g, 0, none⟩) i i)).run prog wr = .ok (.string (qa8 n)) wr := by
      have := qev (P := prog) (src := 97) (dst := 9) (e := 5) underlying97 underlying5 underlying9 hL ho.row (c := i)
      rw [this, hF]; rfl
     clear hv ho hk1 hF
     go_wp2_with fail
     go_ret
     exact ⟨rfl, HKR.out⟩
    | succ gh =>
     obtain ⟨d, hd⟩ : ∃ x, l[i]? = some x := ⟨_, List.getElem?_eq_getElem (by have := HM.out; omega)⟩
     obtain ⟨b, off, hA, c0⟩ := qbS (HR.out.kept hk1) hd
     have hdb := HD.out.ok d (List.mem_of_getElem? hd)
     have HX := qh (HD.out.byte hd)
     obtain ⟨⟨u0, c2⟩, f0⟩ := ho.free (j := m - 1 - i) (by omega)
     have hx1 : (0 : Int) ≤ (m : Int) - 1 - i := by omega
     have hx2 : (m : Int) - 1 - i < m := by omega
     have hx3 : ((m : Int) - 1 - i).toNat = m - 1 - i := by omega
     have hin : (i : Int) < m := by omega
     first | subst hA | cases hA
     clear hv ho hk1 hd
     go_wp2_with fail
     go_roundg gh
     case measure => omega
     case rel =>
      refine ⟨i + 1, L.set (m - 1 - i) (UInt8.ofNat (n / 256 ^ i % 256)), by omega, by go_num, by simpa using hL, fun j hj => ?_, ?_, HKR.out.setCell (p := ⟨g, m - 1 - i, none⟩) (show w0.heap.size ≤ g by have := HG.out; omega) _⟩
      ·by_cases hji : j = i
       ·subst hji
        rw [List.getElem?_set_self (by omega)]
       ·rw [List.getElem?_set_ne (by omega)]
        exact HV.out j (by omega)
      ·have := HOW.out.byte (j := m - 1 - i) (by omega) d hdb
       rw [← HX.out]
       exact this
section
set_option maxHeartbeats 3200000
set_option maxRecDepth 100000
theorem qkP (n : Nat) (w : World) (hn : n < 18446744073709551616) :
  Calls prog 157 #[.int .u64 (n : Int)] w fun e w' => e = .returned (.string (qa8 n)) ∧ Kept w w' := by
 obtain ⟨i0, hi, hi0, hi1, hi2⟩ := info_parts qdt
 obtain ⟨m, hm⟩ : ∃ m, m = (qdD 256 n).length := ⟨_, rfl⟩
 have hm8 : m ≤ 8 := by rw [hm, qbH (by omega)]; exact hn
 have HM := qh hm
 clear hm
 go_enter func157, ntmps157
 go_wp2_with fail
 go_loopg [0, 3] m (fun gh v0 v3 wr => ∃ (i q : Nat), i + gh = m ∧ v0 = .int .u64 (q : Int) ∧ q < 18446744073709551616 ∧ q = n / 256 ^ i ∧ Own wr w.heap.size 1 v3 i (qaU ((qdD 256 n).take i)) ∧ Kept w wr)
 case atStart => exact ⟨0, n, by omega, rfl, hn, by simp, by simpa [qaU] using Own.nil w w.heap.size 1, Below.refl _ _⟩
 case round =>
  obtain ⟨i, q, hig, rfl, hqb, hq, ho, hk⟩ := hrel
  have HOW := qh ho
  have HKR := qh hk
  have HQ := qh hq
  clear hq hk
  cases gk with
  | zero =>
   obtain rfl : i = m := by omega
   have hq0 : q = 0 := by
    rw [HQ.out, Nat.div_eq_of_lt]
    exact (qbH (by omega) n i).1 (by have := HM.out; omega)
   subst hq0
   rw [List.take_of_length_le (by have := HM.out; omega)] at ho
   obtain ⟨A, c, rfl, hnc, hcm, hrow, -, -⟩ := ho.form
   have hd := qcB (B := 256) (by omega) n
   have C1 := qh (fun (W : World) (hk : Kept wr W) => qlq A c (qdD 256 n) n W (by have := HM.out; omega) (hrow.kept hk) hd)
   rw [← HM.out] at C1
   clear ho hrow
   go_wp2_with (go_at_call 183; refine (C1.out _ (Below.refl _ _)).mono ?_; rintro e w9 ⟨rfl, hk9⟩)
   go_ret
   exact ⟨rfl, HKR.out.trans' hk9⟩
  | succ gh =>
   have hge : ¬ n < 256 ^ i := fun h => by
    have := (qbH (by omega) n i).2 h
    have := HM.out; omega
   have hq0 : q ≠ 0 := by
    rw [HQ.out]
    have := Nat.div_pos (Nat.le_of_not_lt hge) (Nat.pow_pos (n := i) (show 0 < 256 by omega))
    omega
   have hx := qjp n i (by have := HM.out; omega)
   rw [← HQ.out] at hx
   have HX := qh hx
   have hq1 : (0 : Int) < q := by omega
   have hw : IntKind.i64.wrap ((q : Int) % 256) = (q : Int) % 256 := IntWalk.i64_in _ (by omega)
   clear ho hx
   go_wp2_with (at_builtin; refine qap _ rfl _ _ 98 rfl w.heap.size 3 i0 (.int .i64 0) 1 8 underlying98 hi hi0 hi1 hi2 rfl (by decide) _ i _ rfl (HOW.out.alloc _) (some ⟨wr.heap.size, 0, none⟩) 1 1 [.int .i64 ((q : Int) % 256)] rfl rfl (Row.qbA _ _ _ _ _ _ rfl rfl) (qca _) ?_ ?_ ?_ ?_)
   ·unfold maxLen; omega
   ·omega
   ·have := HKR.out.size; simp; omega
   ·intro v3 w3 hown3 hg3 hat3
    have HO3 := qh hown3
    have HK3 := qh (qa6 (HKR.out.alloc (HKR.out.size) _) (HOW.out.alloc _) (Nat.le_refl _) (by have := HKR.out.size; simp; omega) hg3)
    clear hown3 hg3 hat3
    go_wp2_with fail
    go_roundg gh
    case measure => omega
    case rel =>
     have hO := HO3.out
     rw [show (q : Int) % 256 = ((q % 256 : Nat) : Int) by omega, ← qbN] at hO
     exact ⟨i + 1, q / 256, by omega, by go_num, by omega, by rw [HQ.out, Nat.div_div_eq_div_mul, Nat.pow_succ], by rw [List.take_add_one, HX.out]; exact hO, HK3.out⟩
theorem qju (neg : Bool) (A : Option Addr) (c : Nat) (l : List Nat) (x : Nat) (z e : Int) (w : World) (hl : l.length ≤ 100000) (hr : Row w A (qaU l)) (hc : l.length ≤ c) (hd : D8 l x) (hz : z.natAbs = x) (hneg : z ≠ 0 → neg = decide (z < 0)) (he : e.natAbs ≤ 1000000000) :
  Calls prog 135 #[.bool neg, .slice A l.length c, .int .i64 e] w fun en w' => en = .returned (qaf (qbh z e)) ∧ Kept w w' := by
 obtain ⟨m, hm⟩ : ∃ m, m = l.length := ⟨_, rfl⟩
 by_cases h0 : z = 0
 ·subst h0
  have hx0 : x = 0 := by rw [← hz]; rfl
  have h1 : m = 0 := by rw [hm, (hd.qcb (by omega)).2 hx0]; rfl
  rw [← hm, h1, qcR]
  clear hr hd hneg hm h1
  go_enter func135, ntmps135
  go_wp2_with fail
  exact bodyPost_ret (v := qaf (zD, 0)) (by simp [results, results135, go_sem, qaf, zD]) rfl ⟨rfl, Kept.new (Below.refl _ _) _⟩
 ·have hx0 : x ≠ 0 := by omega
  have hm0 : m ≠ 0 := by
   intro h
   exact hx0 ((hd.qcb (by omega)).1 (List.eq_nil_of_length_eq_zero (by omega)))
  have hn := hneg h0
  obtain ⟨t, ht⟩ : ∃ t, t = tz z.natAbs := ⟨_, rfl⟩
  have hT : qch x t := by rw [ht, hz]; exact qfI hx0
  have htb : t < 8 * m := by
   have h1 := hd.lt
   rw [qje, ← hm] at h1
   exact hT.lt h1
  have LOW : Hid (∀ W, Kept w W → Calls prog 172 #[.slice A m c] W fun e w' => e = .returned (.int .i64 (t : Int)) ∧ W = w') := fun W h => by
   rw [hm]
   exact (qm7 A c l x t W (by omega) (hr.kept h) hd hT).mono fun _ _ h => ⟨h.1, h.2.symm⟩
  have HAL : Hid (∀ W, Kept w W → Calls prog 164 #[.slice A m c, .int .i64 (t : Int)] W fun e w' => ∃ v, e = .returned v ∧ qbn w' v (x / 2 ^ t) m ∧ Kept W w') := fun W h => by
   rw [hm]
   exact qgN A c l x t W (by omega) (by omega) (hr.kept h) hd
  rw [← hm] at hl ⊢
  obtain ⟨y, hy⟩ : ∃ y, y = x / 2 ^ t := ⟨_, rfl⟩
  rw [← hy] at HAL
  have HT := qh (And.intro ht (show y = z.natAbs / 2 ^ t by rw [hy, hz]))
  have hb1 : ¬ (m : Int) = 0 := by omega
  have hb2 : ((m : Int) == 0) = false := by simpa using hb1
  subst hn
  clear hr hd hz hneg hm ht hT hy hx0
  go_enter func135, ntmps135
  go_upto_region 1 with fail
  obtain ⟨b, w1, hw, hb, B0, K1, HB⟩ := qa4 w (LC0 false ⟨#[]⟩ 0) 24
  rw [← hw, ← hb]; clear hw hb
  go_upto_region 4 with (go_at_call 172; (with_reducible refine (LOW.out _ K1.out).mono ?_); rintro e w2 ⟨rfl, rfl⟩)
  go_upto_region 5 with (go_at_call 164; (with_reducible refine (HAL.out _ K1.out).mono ?_); rintro e w2 ⟨v, rfl, hv, hk2⟩)
  obtain ⟨A2, c2, l2, rfl, hl2, hl2m, hr2, hd2⟩ := hv
  obtain ⟨k, hk⟩ : ∃ k, k = l2.length := ⟨_, rfl⟩
  rw [← hk] at hl2 hl2m ⊢
  have HK := qh (And.intro hk (hk.trans hd2.bytes))
  have R2 := qh hr2
  have D2 := qh hd2
  have K2 := qh (K1.out.trans' hk2)
  have B2 := qh (B0.out.kept hk2)
  obtain ⟨b0, b1, b2⟩ := B2.out.c3
  obtain ⟨f0, f1, f2⟩ := B2.out.f3
  have BAD : Hid ((16384 < k ∨ 1048576 < e + t ∨ e + t < -1048576) → qbh z e = (zD, 4)) := fun h => qhy h0 HT.out.1 HT.out.2 (by rw [← HK.out.2]; exact h)
  clear hk hr2 hd2 hk2 LOW HAL K1 B0
  by_cases a1 : 1048576 < e
  ·have HX := qh (BAD.out (.inr (.inl (by omega))))
   clear BAD
   go_wp2_with fail
   exact bodyPost_ret (v := qaf (zD, 4)) (by simp [results, results135, go_sem, b0, b1, b2, qaf, zD]) rfl ⟨by rw [HX.out], K2.out.qaL HB.out _ _ _⟩
  ·skip
   by_cases a2 : e < -4194304
   ·have HX := qh (BAD.out (.inr (.inr (by omega))))
    clear BAD
    go_wp2_with fail
    exact bodyPost_ret (v := qaf (zD, 4)) (by simp [results, results135, go_sem, b0, b1, b2, qaf, zD]) rfl ⟨by rw [HX.out], K2.out.qaL HB.out _ _ _⟩
   ·skip
    by_cases a3 : 1048576 < e + t
    ·have HX := qh (BAD.out (.inr (.inl (by omega))))
     clear BAD
     go_wp2_with fail
     exact bodyPost_ret (v := qaf (zD, 4)) (by simp [results, results135, go_sem, b0, b1, b2, qaf, zD]) rfl ⟨by rw [HX.out], K2.out.qaL HB.out _ _ _⟩
    ·skip
     by_cases a4 : e + t < -1048576
     ·have HX := qh (BAD.out (.inr (.inr (by omega))))
      clear BAD
      go_wp2_with fail
      exact bodyPost_ret (v := qaf (zD, 4)) (by simp [results, results135, go_sem, b0, b1, b2, qaf, zD]) rfl ⟨by rw [HX.out], K2.out.qaL HB.out _ _ _⟩
     ·skip
      by_cases a5 : 16384 < k
      ·have HX := qh (BAD.out (.inl (by omega)))
       have i1 : (16384 : Int) < k := by omega
       clear BAD
       go_wp2_with fail
       exact bodyPost_ret (v := qaf (zD, 4)) (by simp [results, results135, go_sem, b0, b1, b2, qaf, zD]) rfl ⟨by rw [HX.out], K2.out.qaL HB.out _ _ _⟩
      ·skip
       have i1 : ¬ (16384 : Int) < k := by omega
       have HX := qh (qh4 (e := e) h0 HT.out.1 HT.out.2 (by rw [← HK.out.2]; omega) (by omega) (by omega))
       have mk := qig k (by omega)
       clear BAD
       go_upto_region 8 with fail
       have HO := qh (qir w2 k (by omega))
       have K3 := qh (show Kept w2 (w2.alloc (.cells (qdc k) 5)) from (Below.refl _ _).alloc (Nat.le_refl _) _)
       obtain ⟨g, hg⟩ : ∃ g, g = w2.heap.size := ⟨_, rfl⟩
       rw [← hg] at HO ⊢
       have HG := qh hg
       have hbg := qh (show b ≠ g by have := B2.out.lt; omega)
       generalize (World.alloc w2 (.cells (qdc k) 5)) = W1 at *
       clear mk hg b0 b1 b2 f0 f1 f2
       go_wp2_with fail
       go_loopg [10] k (fun gh v10 wr => ∃ (i : Nat) (L : List UInt8), i + gh = k ∧ v10 = .int .i64 i ∧ L.length = k ∧ (∀ j, j < i → L[k - 1 - j]? = some (UInt8.ofNat (y / 256 ^ j % 256))) ∧
        Own wr g 1 (.slice (some ⟨g, 0, none⟩) k k) k (bytesV L) ∧ Kept w2 wr)
       case atStart => exact ⟨0, List.replicate k 0, by omega, rfl, by simp, fun j hj => by omega, HO.out, K3.out⟩
       case round =>
        obtain ⟨i, L, hig, rfl, hL, hv, ho, hk1⟩ := hrel
        have HV := qh hv
        have HOW := qh ho
        have HKR := qh hk1
        cases gk with
        | zero =>
         obtain rfl : i = k := by omega
         have hF : L = qay y := qeJ (by rw [hL, HK.out.2, qaR]) (fun q hq => by rw [hL]; exact hv q (by omega))
         have kv : (convert 97 22 (.slice (some ⟨g, 0, none⟩) i i)).run prog wr = .ok (.string ⟨(qay y).toArray⟩) wr := by
          have := qev (P := prog) (src := 97) (dst := 22) (e := 5) underlying97 underlying5 underlying22 hL ho.row (c := i)
          rw [this, hF]
         have B3 := qh (B2.out.kept hk1)
         obtain ⟨b0, b1, b2⟩ := B3.out.c3
         obtain ⟨f0, f1, f2⟩ := B3.out.f3
         clear hv ho hk1 hF
         go_wp2_with fail
         exact bodyPost_ret (v := qaf (qbh z e)) (by rw [HX.out]; simp [results, results135, go_sem, b0, b1, b2, qaf]) rfl ⟨rfl, (K2.out.trans' HKR.out).qaL HB.out _ _ _⟩
        | succ gh =>
         obtain ⟨d, hd⟩ : ∃ x, l2[i]? = some x := ⟨_, List.getElem?_eq_getElem (by have := HK.out.1; omega)⟩
         obtain ⟨bd, od, rfl, c0⟩ := qbS (R2.out.kept hk1) hd
         have hdb := D2.out.ok d (List.mem_of_getElem? hd)
         have HXX := qh (D2.out.byte hd)
         obtain ⟨⟨u0, c2⟩, f0⟩ := ho.free (j := k - 1 - i) (by omega)
         have hx1 : (0 : Int) ≤ (k : Int) - 1 - i := by omega
         have hx2 : (k : Int) - 1 - i < k := by omega
         have hx3 : ((k : Int) - 1 - i).toNat = k - 1 - i := by omega
         have hin : (i : Int) < k := by omega
         clear hv ho hk1 hd
         go_wp2_with fail
         go_roundg gh
         case measure => omega
         case rel =>
          refine ⟨i + 1, L.set (k - 1 - i) (UInt8.ofNat (y / 256 ^ i % 256)), by omega, by go_num, by simpa using hL, fun j hj => ?_, ?_, HKR.out.setCell (p := ⟨g, k - 1 - i, none⟩) (show w2.heap.size ≤ g by have := HG.out; omega) _⟩
          ·by_cases hji : j = i
           ·subst hji
            rw [List.getElem?_set_self (by omega)]
           ·rw [List.getElem?_set_ne (by omega)]
            exact HV.out j (by omega)
          ·have := HOW.out.byte (j := k - 1 - i) (by omega) d hdb
           rw [← HXX.out]
           exact this
end
section
set_option maxHeartbeats 1600000
set_option maxRecDepth 100000
theorem qnD (n e : Int) (w : World) (h0 : -9223372036854775808 ≤ n) (h0' : n ≤ 9223372036854775807) (h1 : -1000000000 ≤ e) (h2 : e ≤ 1000000000) (hT : T32 w) :
  Calls prog 132 #[.int .i64 n, .int .i64 e] w fun en w' => en = .returned (qaf (qbh n e)) ∧ Kept w w' := by
 have NEW : Hid (∀ W, Kept w W → Calls prog 165 #[.int .i64 n] W fun en w' => ∃ p, en = .returned (.pointer (some ⟨p, 0, none⟩)) ∧ qaq w' p n 2 ∧ Kept W w') := fun W h =>
  (qjE n W h0 h0').mono fun en w' ⟨p, e1, e2, e3, e4⟩ => ⟨p, e1, e3, e4⟩
 have MADE : Hid (∀ W p, Kept w W → qaq W p n 2 → Calls prog 133 #[.pointer (some ⟨p, 0, none⟩), .int .i64 e] W fun en w' => en = .returned (qaf (qbh n e)) ∧ Kept W w') := fun W p h hp =>
  qha p n e 2 W hp (by omega) h1 h2 (hT.kept h)
 obtain ⟨r, hr⟩ : ∃ r, r = qbh n e := ⟨_, rfl⟩
 rw [← hr] at MADE ⊢
 clear hr hT
 go_enter func132, ntmps132
 go_upto_region 1 with fail
 obtain ⟨b, w1, hw, hb, B0, K1, HB⟩ := qa4 w (LC0 false ⟨#[]⟩ 0) 24
 rw [← hw, ← hb]; clear hw hb
 go_wp2_with (first
  | (go_at_call 165; (with_reducible refine (NEW.out _ K1.out).mono ?_); rintro e w3 ⟨p, rfl, h3, hk3⟩; have K3 := qh (K1.out.trans' hk3); have B3 := qh (B0.out.kept hk3))
  | (go_at_call 133; (with_reducible refine (MADE.out _ _ K3.out h3).mono ?_); rintro e w4 ⟨rfl, hk4⟩; have K4 := qh (K3.out.trans' hk4); obtain ⟨c0, c1, c2⟩ := (B3.out.kept hk4).c3; obtain ⟨f0, f1, f2⟩ := (B3.out.kept hk4).f3))
 exact bodyPost_ret (v := qaf r) (by simp [results, results132, go_sem, c0, c1, c2, qaf]) rfl ⟨rfl, K4.out.qaL HB.out _ _ _⟩
theorem qne (x y : DyD) (g c : Nat) (w : World) (hx : x.ok) (hy : y.ok) (hb : Bx w g (LC1 x.neg x.n x.e y.neg y.n y.e)) :
  Calls prog 106 #[.slice (some ⟨g, 0, none⟩) 2 c] w fun en w' => en = .returned (.bool (qad x && qad y)) ∧ Kept w w' := by
 have CX : Hid (∀ W, Calls prog 19 #[.agg #[.bool x.neg, .string x.n, .int .i64 x.e]] W fun e w' => e = .returned (.int .i64 (qcK x)) ∧ Kept W w') := fun W => qbq x W hx
 have CY : Hid (∀ W, Calls prog 19 #[.agg #[.bool y.neg, .string y.n, .int .i64 y.e]] W fun e w' => e = .returned (.int .i64 (qcK y)) ∧ Kept W w') := fun W => qbq y W hy
 obtain ⟨p, hp⟩ : ∃ p, p = qad x := ⟨_, rfl⟩
 obtain ⟨q, hq⟩ : ∃ p, p = qad y := ⟨_, rfl⟩
 unfold qcK at CX CY
 rw [← hp] at CX
 rw [← hq] at CY
 rw [← hp, ← hq]
 clear hp hq hx hy
 have HB := qh hb
 clear hb
 go_enter func106, ntmps106
 go_wp2_with fail
 go_loopg [4, 7] 2 (fun gh v4 v7 wr => ∃ i : Nat, i + gh = 2 ∧ v7 = .int .i64 i ∧ Hid ((1 ≤ i → p = true) ∧ (2 ≤ i → q = true)) ∧ Kept w wr)
 case atStart => exact ⟨0, by omega, rfl, ⟨fun h => by omega, fun h => by omega⟩, Below.refl _ _⟩
 case round =>
  obtain ⟨i, hig, rfl, HV, hk⟩ := hrel
  have HK := qh hk
  have B := HB.out.kept hk
  obtain ⟨c0, c1, c2, c3, c4, c5⟩ := B.c6
  have hlt := B.lt
  have hwl := hk.size
  clear hk B
  rcases (show i = 0 ∨ i = 1 ∨ i = 2 by omega) with rfl | rfl | rfl
  ·obtain rfl : gk = 2 := by omega
   cases p with
   | true =>
    go_wp2_with (go_at_call 19; (with_reducible refine (CX.out _).mono ?_); rintro e w3 ⟨rfl, hk3⟩)
    go_roundg 1
    case measure => omega
    case rel => exact ⟨1, by omega, by go_num, ⟨by simp, fun h => by omega⟩, (((HK.out.new _)).trans' hk3)⟩
   | false =>
    go_wp2_with (go_at_call 19; (with_reducible refine (CX.out _).mono ?_); rintro e w3 ⟨rfl, hk3⟩)
    go_ret
    exact ⟨rfl, (((HK.out.new _)).trans' hk3)⟩
  ·obtain rfl : gk = 1 := by omega
   cases q with
   | true =>
    go_wp2_with (go_at_call 19; (with_reducible refine (CY.out _).mono ?_); rintro e w3 ⟨rfl, hk3⟩)
    go_roundg 0
    case measure => omega
    case rel => exact ⟨2, by omega, by go_num, ⟨fun _ => HV.out.1 (by omega), by simp⟩, (((HK.out.new _)).trans' hk3)⟩
   | false =>
    go_wp2_with (go_at_call 19; (with_reducible refine (CY.out _).mono ?_); rintro e w3 ⟨rfl, hk3⟩)
    go_ret
    exact ⟨by simp, (((HK.out.new _)).trans' hk3)⟩
  ·obtain rfl : gk = 0 := by omega
   have e1 := HV.out.1 (by omega)
   have e2 := HV.out.2 (by omega)
   subst e1 e2
   go_wp2_with fail
   go_ret
   exact ⟨rfl, HK.out⟩
theorem qcG {d : DyD} (h : qad d = true) (h0 : d.num ≠ 0) : d.n ≠ ⟨#[]⟩ := by
 intro e
 apply h0
 have := qdS d
 rw [e] at this
 have h2 : qfl ⟨#[]⟩ = 0 := rfl
 omega
theorem qcP (d : DyD) (w : World) (hd : qad d = true) : Calls prog 20 #[.agg #[.bool d.neg, .string d.n, .int .i64 d.e]] w fun en w' => en = .returned (.int .i64 d.num.sign) ∧ Kept w w' := by
 have CK : Hid (∀ W, Calls prog 19 #[.agg #[.bool d.neg, .string d.n, .int .i64 d.e]] W fun e w' => e = .returned (.int .i64 0) ∧ Kept W w') := fun W => by
  have := qbq d W (qda hd)
  unfold qcK at this
  rw [hd] at this
  exact this
 by_cases h0 : d.num = 0
 ·obtain rfl := (qag hd).2.1 h0
  clear CK
  show Calls prog 20 #[.agg #[.bool false, .string ⟨#[]⟩, .int .i64 0]] w fun en w' => en = .returned (.int .i64 0) ∧ Kept w w'
  go_enter func20, ntmps20
  go_wp2_with fail
  go_ret
  exact ⟨rfl, Kept.new (Below.refl _ _) _⟩
 ·have hne := qcG hd h0
  have hneg := qcp hd
  have HS := qh (show d.num.sign = if d.neg then -1 else 1 by
   rw [hneg]
   rcases Int.lt_trichotomy d.num 0 with h | h | h
   ·rw [Int.sign_eq_neg_one_of_neg h, decide_eq_true h]; rfl
   ·exact absurd h h0
   ·rw [Int.sign_eq_one_of_pos h, decide_eq_false (by omega)]; rfl)
  rw [HS.out]
  obtain ⟨neg, s, x⟩ := d
  simp only at hne CK ⊢
  have hd0 : s.data.toList ≠ [] := fun h => hne ((qbG s).1 h)
  have hz : s.toList = [] ↔ False := by
   rw [Lib.toList_data]
   exact ⟨fun h => hd0 h, False.elim⟩
  have hz1 : s.toList.isEmpty = false := by
   cases h : s.toList with
   | nil => exact (hz.1 h).elim
   | cons x l => rfl
  clear HS hneg h0 hd hd0
  cases neg with
  | false =>
   go_enter func20, ntmps20
   go_upto_region 1 with fail
   obtain ⟨b, w1, hw, hb, B0, K1, HB⟩ := qa4 w (LC0 false s x) 24
   rw [← hw, ← hb]; clear hw hb
   obtain ⟨c0, c1, c2⟩ := B0.out.c3
   go_wp2_with (go_at_call 19; (with_reducible refine (CK.out _).mono ?_); rintro e w3 ⟨rfl, hk3⟩; obtain ⟨c0, c1, c2⟩ := (B0.out.kept hk3).c3)
   go_ret
   exact ⟨rfl, K1.out.trans' hk3⟩
  | true =>
   go_enter func20, ntmps20
   go_upto_region 1 with fail
   obtain ⟨b, w1, hw, hb, B0, K1, HB⟩ := qa4 w (LC0 true s x) 24
   rw [← hw, ← hb]; clear hw hb
   obtain ⟨c0, c1, c2⟩ := B0.out.c3
   go_wp2_with (go_at_call 19; (with_reducible refine (CK.out _).mono ?_); rintro e w3 ⟨rfl, hk3⟩; obtain ⟨c0, c1, c2⟩ := (B0.out.kept hk3).c3)
   go_ret
   exact ⟨rfl, K1.out.trans' hk3⟩
theorem qmL (n : Int) (w : World) : Calls prog 107 #[.int .i64 n] w fun en w' => en = .returned (.int .i64 n.sign) ∧ w' = w := by
 rcases Int.lt_trichotomy n 0 with h | h | h
 ·rw [Int.sign_eq_neg_one_of_neg h]
  go_enter func107, ntmps107
  go_wp2_with fail
  go_ret
  exact ⟨rfl, rfl⟩
 ·subst h
  go_enter func107, ntmps107
  go_wp2_with fail
  go_ret
  exact ⟨rfl, rfl⟩
 ·rw [Int.sign_eq_one_of_pos h]
  have h2 : ¬ n < 0 := by omega
  go_enter func107, ntmps107
  go_wp2_with fail
  go_ret
  exact ⟨rfl, rfl⟩
theorem qnW (d : DyD) (w : World) (hd : qad d = true) : Calls prog 147 #[.agg #[.bool d.neg, .string d.n, .int .i64 d.e]] w fun en w' => en = .returned (dyV (negS d)) ∧ Kept w w' := by
 have CS : Hid (∀ W, Calls prog 20 #[.agg #[.bool d.neg, .string d.n, .int .i64 d.e]] W fun e w' => e = .returned (.int .i64 d.num.sign) ∧ Kept W w') := fun W => qcP d W hd
 have HS := qh (show negS d = if d.num.sign = 0 then zD else ⟨!d.neg, d.n, d.e⟩ by
  unfold negS
  by_cases h : d.num = 0
  ·rw [if_pos h, h]; rfl
  ·rw [if_neg h, if_neg (fun e => h (Int.sign_eq_zero_iff_zero.1 e))])
 rw [HS.out]
 obtain ⟨neg, s, x⟩ := d
 simp only at CS ⊢
 generalize (DyD.mk neg s x).num.sign = g at *
 clear HS hd
 by_cases h0 : g = 0
 ·subst h0
  go_enter func147, ntmps147
  go_upto_region 1 with fail
  obtain ⟨b, w1, hw, hb, B0, B1, K1, HB⟩ := qa7 w (LC0 neg s x) 24 (LC0 false ⟨#[]⟩ 0) 24
  rw [← hw, ← hb]; clear hw hb
  obtain ⟨c0, c1, c2⟩ := B0.out.c3
  go_wp2_with (go_at_call 20; (with_reducible refine (CS.out _).mono ?_); rintro e w3 ⟨rfl, hk3⟩; obtain ⟨c0, c1, c2⟩ := (B0.out.kept hk3).c3; obtain ⟨d0, d1, d2⟩ := (B1.out.kept hk3).c3; obtain ⟨f0, f1, f2⟩ := (B1.out.kept hk3).f3)
  exact bodyPost_ret (v := dyV zD) (by simp [results, results147, go_sem, d0, d1, d2, dyV, zD]) rfl ⟨rfl, (K1.out.trans' hk3).qaL (by have := HB.out; omega) _ _ _⟩
 ·rw [if_neg h0]
  go_enter func147, ntmps147
  go_upto_region 1 with fail
  obtain ⟨b, w1, hw, hb, B0, B1, K1, HB⟩ := qa7 w (LC0 neg s x) 24 (LC0 false ⟨#[]⟩ 0) 24
  rw [← hw, ← hb]; clear hw hb
  obtain ⟨c0, c1, c2⟩ := B0.out.c3
  go_wp2_with (go_at_call 20; (with_reducible refine (CS.out _).mono ?_); rintro e w3 ⟨rfl, hk3⟩; obtain ⟨c0, c1, c2⟩ := (B0.out.kept hk3).c3; obtain ⟨e0, e1, e2⟩ := (B0.out.kept hk3).f3; obtain ⟨d0, d1, d2⟩ := (B1.out.kept hk3).c3; obtain ⟨f0, f1, f2⟩ := (B1.out.kept hk3).f3)
  exact bodyPost_ret (v := dyV ⟨!neg, s, x⟩) (by simp [results, results147, go_sem, d0, d1, d2, dyV]) rfl ⟨rfl, ((K1.out.trans' hk3).set HB.out _ _).qaL (by have := HB.out; omega) _ _ _⟩
end
theorem qfr (x y : DyD) (hx : qad x = true) (hy : qad y = true) (W : World) (g : Nat) (hb : Bx W g (LC1 x.neg x.n x.e y.neg y.n y.e)) :
  Calls prog 106 #[.slice (some ⟨g, 0, none⟩) 2 2] W fun en w' => en = .returned (.bool true) ∧ Kept W w' := by
 have := qne x y g 2 W (qda hx) (qda hy) hb
 rw [hx, hy] at this
 exact this
theorem qck (x : DyD) (hx : qad x = true) (W : World) :
  Calls prog 109 #[.agg #[.bool x.neg, .string x.n, .int .i64 x.e]] W fun e w' => ∃ p, e = .returned (.pointer (some ⟨p, 0, none⟩)) ∧ W.heap.size ≤ p ∧ qaq w' p x.num 4097 ∧ Kept W w' := by
 have hs := qdx hx
 exact (qmf x W (by omega)).mono fun e w' ⟨p, h1, h2, h3, h4⟩ => ⟨p, h1, h2, h3.more (by omega), h4⟩
theorem qfA (p : Nat) (x : Int) (k s : Nat) (W : World) (hk : k ≤ 100000000) (hs : s ≤ 1000000000) (h : qaq W p x k) :
  Calls prog 110 #[.pointer (some ⟨p, 0, none⟩), .pointer (some ⟨p, 0, none⟩), .int .u64 (s : Int)] W fun e w' => e = .returned (.pointer (some ⟨p, 0, none⟩)) ∧ qaq w' p (x * 2 ^ s) (k + s / 32 + 1) ∧ W.grownBy w' (some p) := by
 obtain ⟨b, u, hb, hu⟩ := h.box
 exact qiT p p b u x k s W h hk hs hb hu
theorem qn0 (p r : Nat) (x y : Int) (k j : Nat) (W : World) (hk : k ≤ 100000000) (hj : j ≤ 100000000) (h : qaq W p x k) (h' : qaq W r y j) :
  Calls prog 134 #[.pointer (some ⟨p, 0, none⟩), .pointer (some ⟨p, 0, none⟩), .pointer (some ⟨r, 0, none⟩)] W fun e w' => e = .returned (.pointer (some ⟨p, 0, none⟩)) ∧ qaq w' p (x + y) (max k j + 1) ∧ W.grownBy w' (some p) := by
 obtain ⟨b, u, hb, hu⟩ := h.box
 exact qi8 p r p b u x y k j W h h' hk hj hb hu
set_option maxRecDepth 100000 in
set_option maxHeartbeats 3200000 in
theorem qhd (x y : DyD) (w : World) (hx : qad x = true) (hy : qad y = true) (hT : T32 w) :
  Calls prog 90 #[.agg #[.bool x.neg, .string x.n, .int .i64 x.e], .agg #[.bool y.neg, .string y.n, .int .i64 y.e]] w fun en w' => en = .returned (qaf (qaS x y)) ∧ Kept w w' := by
 have ALL := qh (qfr x y hx hy)
 have SX := qh (fun W => qcP x W hx)
 have SY := qh (fun W => qcP y W hy)
 have WX := qh (qck x hx)
 have WY := qh (qck y hy)
 have hxe := (qag hx).2.2.2
 have hye := (qag hy).2.2.2
 by_cases h1 : x.num = 0
 ·have HR := qh (show qaS x y = (y, 0) by unfold qaS; rw [if_pos h1])
  rw [h1] at SX
  rw [HR.out]
  obtain ⟨xn, xs, xe⟩ := x
  obtain ⟨yn, ys, ye⟩ := y
  simp only at ALL SX ⊢
  clear HR SY WX WY hx hy h1 hT hxe hye
  go_enter func90, ntmps90
  go_upto_region 1 with fail
  obtain ⟨b, w1, hw, hb, B0, B1, B2, K1, HB⟩ := qct w (LC0 xn xs xe) 24 (LC0 yn ys ye) 24 (LC0 false ⟨#[]⟩ 0) 24
  rw [← hw, ← hb]; clear hw hb
  obtain ⟨c0, c1, c2⟩ := B0.out.c3
  obtain ⟨d0, d1, d2⟩ := B1.out.c3
  go_wp2_with (first
   | (go_at_call 106; (with_reducible refine (ALL.out _ _ ?_).mono ?_); (exact Bx.new _ _ _ _ rfl); rintro e w3 ⟨rfl, hk3⟩; have K3 := qh ((Kept.new (Below.refl _ _) _).trans' hk3); obtain ⟨c0, c1, c2⟩ := (B0.out.kept K3.out).c3)
   | (go_at_call 20; (with_reducible refine (SX.out _).mono ?_); rintro e w4 ⟨rfl, hk4⟩; have K4 := qh (K3.out.trans' hk4); obtain ⟨d0, d1, d2⟩ := (B1.out.kept K4.out).c3; obtain ⟨e0, e1, e2⟩ := (B2.out.kept K4.out).c3; obtain ⟨f0, f1, f2⟩ := (B2.out.kept K4.out).f3))
  exact bodyPost_ret (v := qaf (⟨yn, ys, ye⟩, 0)) (by simp [results, results90, go_sem, e0, e1, e2, qaf]) rfl ⟨rfl, (K1.out.trans' K4.out).qaL (by have := HB.out; omega) _ _ _⟩
 ·have hs1 : ¬ x.num.sign = 0 := fun e => h1 (Int.sign_eq_zero_iff_zero.1 e)
  by_cases h2 : y.num = 0
  ·have HR := qh (show qaS x y = (x, 0) by unfold qaS; rw [if_neg h1, if_pos h2])
   rw [h2] at SY
   rw [HR.out]
   obtain ⟨xn, xs, xe⟩ := x
   obtain ⟨yn, ys, ye⟩ := y
   simp only at ALL SX SY hs1 ⊢
   generalize (DyD.mk xn xs xe).num.sign = sg at *
   clear HR WX WY hx hy h1 h2 hT hxe hye
   go_enter func90, ntmps90
   go_upto_region 1 with fail
   obtain ⟨b, w1, hw, hb, B0, B1, B2, K1, HB⟩ := qct w (LC0 xn xs xe) 24 (LC0 yn ys ye) 24 (LC0 false ⟨#[]⟩ 0) 24
   rw [← hw, ← hb]; clear hw hb
   obtain ⟨c0, c1, c2⟩ := B0.out.c3
   obtain ⟨d0, d1, d2⟩ := B1.out.c3
   go_wp2_with (first
   | (go_at_call 106; (with_reducible refine (ALL.out _ _ ?_).mono ?_); (exact Bx.new _ _ _ _ rfl); rintro e w3 ⟨rfl, hk3⟩; have K3 := qh ((Kept.new (Below.refl _ _) _).trans' hk3); obtain ⟨c0, c1, c2⟩ := (B0.out.kept K3.out).c3)
   | (go_at_call 20; (with_reducible refine (SX.out _).mono ?_); rintro e w4 ⟨rfl, hk4⟩; have K4 := qh (K3.out.trans' hk4); obtain ⟨d0, d1, d2⟩ := (B1.out.kept K4.out).c3)
   | (go_at_call 20; (with_reducible refine (SY.out _).mono ?_); rintro e w5 ⟨rfl, hk5⟩; have K5 := qh (K4.out.trans' hk5); obtain ⟨c0, c1, c2⟩ := (B0.out.kept K5.out).c3; obtain ⟨d0, d1, d2⟩ := (B1.out.kept K5.out).c3; obtain ⟨e0, e1, e2⟩ := (B2.out.kept K5.out).c3; obtain ⟨f0, f1, f2⟩ := (B2.out.kept K5.out).f3))
   exact bodyPost_ret (v := qaf (⟨xn, xs, xe⟩, 0)) (by simp [results, results90, go_sem, e0, e1, e2, qaf]) rfl ⟨rfl, (K1.out.trans' K5.out).qaL (by have := HB.out; omega) _ _ _⟩
  ·have hs2 : ¬ y.num.sign = 0 := fun e => h2 (Int.sign_eq_zero_iff_zero.1 e)
   obtain ⟨lo, hlo⟩ : ∃ lo, lo = min x.e y.e := ⟨_, rfl⟩
   obtain ⟨hi, hhi⟩ : ∃ hi, hi = max x.e y.e := ⟨_, rfl⟩
   have l1 : (if x.e < y.e then x.e else y.e) = lo := by rw [hlo]; split <;> omega
   have l2 : (if x.e < y.e then y.e else x.e) = hi := by rw [hhi]; split <;> omega
   have l3 : (if y.e < x.e then y.e else x.e) = lo := by rw [hlo]; split <;> omega
   have l4 : (if y.e < x.e then x.e else y.e) = hi := by rw [hhi]; split <;> omega
   have b1 : lo ≤ x.e := by omega
   have b2 : lo ≤ y.e := by omega
   have b3 : hi - lo ≤ 2097152 := by omega
   have b4 : -1048576 ≤ lo := by omega
   have b5 : lo ≤ 1048576 := by omega
   have b6 : hi ≤ 1048576 := by omega
   have b7 : x.e ≤ hi := by omega
   have b8 : y.e ≤ hi := by omega
   by_cases h3 : 131080 < hi - lo
   ·have HR := qh (show qaS x y = (zD, 4) by unfold qaS; rw [if_neg h1, if_neg h2, ← hlo, ← hhi, if_pos h3])
    rw [HR.out]
    obtain ⟨xn, xs, xe⟩ := x
    obtain ⟨yn, ys, ye⟩ := y
    simp only at ALL SX SY hs1 hs2 b1 b2 b7 b8 l1 l2 l3 l4 ⊢
    generalize (DyD.mk xn xs xe).num.sign = sg at *
    generalize (DyD.mk yn ys ye).num.sign = sh at *
    replace hlo := hlo.symm
    replace hhi := hhi.symm
    simp only at hlo hhi
    clear HR WX WY hx hy h1 h2 hT hxe hye
    go_enter func90, ntmps90
    go_upto_region 1 with fail
    obtain ⟨b, w1, hw, hb, B0, B1, B2, K1, HB⟩ := qct w (LC0 xn xs xe) 24 (LC0 yn ys ye) 24 (LC0 false ⟨#[]⟩ 0) 24
    rw [← hw, ← hb]; clear hw hb
    obtain ⟨c0, c1, c2⟩ := B0.out.c3
    obtain ⟨d0, d1, d2⟩ := B1.out.c3
    go_wp2_with (first
    | (go_at_call 106; (with_reducible refine (ALL.out _ _ ?_).mono ?_); (exact Bx.new _ _ _ _ rfl); rintro e w3 ⟨rfl, hk3⟩; have K3 := qh ((Kept.new (Below.refl _ _) _).trans' hk3); obtain ⟨c0, c1, c2⟩ := (B0.out.kept K3.out).c3)
    | (go_at_call 20; (with_reducible refine (SX.out _).mono ?_); rintro e w4 ⟨rfl, hk4⟩; have K4 := qh (K3.out.trans' hk4); obtain ⟨d0, d1, d2⟩ := (B1.out.kept K4.out).c3)
    | (go_at_call 20; (with_reducible refine (SY.out _).mono ?_); rintro e w5 ⟨rfl, hk5⟩; have K5 := qh (K4.out.trans' hk5); obtain ⟨c0, c1, c2⟩ := (B0.out.kept K5.out).c3; obtain ⟨d0, d1, d2⟩ := (B1.out.kept K5.out).c3; obtain ⟨e0, e1, e2⟩ := (B2.out.kept K5.out).c3; obtain ⟨f0, f1, f2⟩ := (B2.out.kept K5.out).f3))
    exact bodyPost_ret (v := qaf (zD, 4)) (by simp [results, results90, go_sem, e0, e1, e2, qaf, zD]) rfl ⟨rfl, (K1.out.trans' K5.out).qaL (by have := HB.out; omega) _ _ _⟩
   ·obtain ⟨sx, hsx⟩ : ∃ s : Nat, (s : Int) = x.e - lo := ⟨(x.e - lo).toNat, by omega⟩
    obtain ⟨sy, hsy⟩ : ∃ s : Nat, (s : Int) = y.e - lo := ⟨(y.e - lo).toNat, by omega⟩
    have HR := qh (show qaS x y = qbh (x.num * 2 ^ sx + y.num * 2 ^ sy) lo by
     unfold qaS; rw [if_neg h1, if_neg h2, ← hlo, ← hhi, if_neg h3, ← hsx, ← hsy, Int.toNat_natCast, Int.toNat_natCast])
    rw [HR.out]
    have x9 : sx ≤ 131080 := by omega
    have y9 : sy ≤ 131080 := by omega
    have MADE : Hid (∀ W p, Kept w W → qaq W p (x.num * 2 ^ sx + y.num * 2 ^ sy) 10000 → Calls prog 133 #[.pointer (some ⟨p, 0, none⟩), .int .i64 lo] W fun en w' => en = .returned (qaf (qbh (x.num * 2 ^ sx + y.num * 2 ^ sy) lo)) ∧ Kept W w') := fun W p h hp =>
     qha p _ lo 10000 W hp (by omega) (by omega) (by omega) (hT.kept h)
    generalize qbh (x.num * 2 ^ sx + y.num * 2 ^ sy) lo = R at *
    obtain ⟨xn, xs, xe⟩ := x
    obtain ⟨yn, ys, ye⟩ := y
    simp only at ALL SX SY WX WY MADE hs1 hs2 b1 b2 b7 b8 l1 l2 l3 l4 hsx hsy ⊢
    generalize (DyD.mk xn xs xe).num = X at *
    generalize (DyD.mk yn ys ye).num = Y at *
    generalize X.sign = sg at *
    generalize Y.sign = sh at *
    replace hlo := hlo.symm
    replace hhi := hhi.symm
    simp only at hlo hhi
    replace hsx := hsx.symm
    replace hsy := hsy.symm
    have u1 : IntKind.u64.wrap (sx : Int) = sx := by rw [IntKind.wrap_u64]; omega
    have u2 : IntKind.u64.wrap (sy : Int) = sy := by rw [IntKind.wrap_u64]; omega
    clear HR hx hy h1 h2 hT hxe hye
    go_enter func90, ntmps90
    go_upto_region 1 with fail
    obtain ⟨b, w1, hw, hb, B0, B1, B2, K1, HB⟩ := qct w (LC0 xn xs xe) 24 (LC0 yn ys ye) 24 (LC0 false ⟨#[]⟩ 0) 24
    rw [← hw, ← hb]; clear hw hb
    obtain ⟨c0, c1, c2⟩ := B0.out.c3
    obtain ⟨d0, d1, d2⟩ := B1.out.c3
    go_upto_region 10 with (first
     | (go_at_call 106; (with_reducible refine (ALL.out _ _ ?_).mono ?_); (exact Bx.new _ _ _ _ rfl); rintro e w3 ⟨rfl, hk3⟩; have K3 := qh ((Kept.new (Below.refl _ _) _).trans' hk3); obtain ⟨c0, c1, c2⟩ := (B0.out.kept K3.out).c3)
     | (go_at_call 20; (with_reducible refine (SX.out _).mono ?_); rintro e w4 ⟨rfl, hk4⟩; have K4 := qh (K3.out.trans' hk4); obtain ⟨d0, d1, d2⟩ := (B1.out.kept K4.out).c3)
     | (go_at_call 20; (with_reducible refine (SY.out _).mono ?_); rintro e w5 ⟨rfl, hk5⟩; have K5 := qh (K4.out.trans' hk5); obtain ⟨c0, c1, c2⟩ := (B0.out.kept K5.out).c3; obtain ⟨d0, d1, d2⟩ := (B1.out.kept K5.out).c3))
    clear ALL SX SY K3 K4 hk4 hk5
    go_upto_region 11 with (go_at_call 109; (with_reducible refine (WX.out _).mono ?_); rintro e w6 ⟨p, rfl, hp, ip, hk6⟩)
    have K6 := qh (K5.out.trans' hk6)
    have hp1 := qh (Nat.le_trans K5.out.size hp)
    obtain ⟨d0, d1, d2⟩ := (B1.out.kept K6.out).c3
    have IP := qh ip
    clear WX hk6 hp ip K5 c0 c1 c2
    go_upto_region 12 with (go_at_call 109; (with_reducible refine (WY.out _).mono ?_); rintro e w7 ⟨q, rfl, hq, iq, hk7⟩)
    have K7 := qh (K6.out.trans' hk7)
    have hne : p ≠ q := by have := IP.out.lt; omega
    have hq1 := qh (Nat.le_trans K6.out.size hq)
    have IP7 := qh (IP.out.kept hk7)
    have IQ7 := qh iq
    obtain ⟨c0, c1, c2⟩ := (B0.out.kept K7.out).c3
    have LX := qh (qfA p X 4097 sx w7 (by omega) (by omega) IP7.out)
    clear WY hk7 hq iq K6 IP d0 d1 d2
    go_upto_region 13 with (go_at_call 110; (with_reducible refine LX.out.mono ?_); rintro e w8 ⟨rfl, ip, hg8⟩)
    have IP8 := qh ip
    have IQ8 := qh (IQ7.out.grown IP7.out hg8 (fun e => hne e.symm))
    have K8 := qh (qaB K7.out hp1.out hg8)
    obtain ⟨d0, d1, d2⟩ := (B1.out.kept K8.out).c3
    have LY := qh (qfA q Y 4097 sy w8 (by omega) (by omega) IQ8.out)
    clear hg8 ip K7 IP7 IQ7 LX c0 c1 c2
    go_upto_region 14 with (go_at_call 110; (with_reducible refine LY.out.mono ?_); rintro e w9 ⟨rfl, iq, hg9⟩)
    have IQ9 := qh iq
    have IP9 := qh (IP8.out.grown IQ8.out hg9 hne)
    have K9 := qh (qaB K8.out hq1.out hg9)
    have ADD := qh (qn0 p q _ _ _ _ w9 (by omega) (by omega) IP9.out IQ9.out)
    clear hg9 iq K8 IP8 IQ8 LY d0 d1 d2
    go_wp2_with (first
     | (go_at_call 134; (with_reducible refine ADD.out.mono ?_); rintro e w10 ⟨rfl, ip, hg10⟩; have IP10 := qh (ip.more (j := 10000) (by omega)); have K10 := qh (qaB K9.out hp1.out hg10); clear hg10 ip)
     | (go_at_call 133; (with_reducible refine (MADE.out _ _ (K1.out.trans' K10.out) IP10.out).mono ?_); rintro e w11 ⟨rfl, hk11⟩; have K11 := qh (K10.out.trans' hk11); obtain ⟨e0, e1, e2⟩ := (B2.out.kept K11.out).c3; obtain ⟨f0, f1, f2⟩ := (B2.out.kept K11.out).f3))
    exact bodyPost_ret (v := qaf R) (by simp [results, results90, go_sem, e0, e1, e2, qaf]) rfl ⟨rfl, (K1.out.trans' K11.out).qaL (by have := HB.out; omega) _ _ _⟩
section
set_option maxHeartbeats 3200000
set_option maxRecDepth 100000
theorem qjD (x y : DyD) (w : World) (hx : qad x = true) (hy : qad y = true) (hT : T32 w) :
  Calls prog 103 #[.agg #[.bool x.neg, .string x.n, .int .i64 x.e], .agg #[.bool y.neg, .string y.n, .int .i64 y.e]] w fun en w' => en = .returned (qaf (qdG x y)) ∧ Kept w w' := by
 have ALL := qh (qfr x y hx hy)
 have NEG := qh (fun W => qnW y W hy)
 have ADD : Hid (∀ W, Kept w W → Calls prog 90 #[.agg #[.bool x.neg, .string x.n, .int .i64 x.e], .agg #[.bool (negS y).neg, .string (negS y).n, .int .i64 (negS y).e]] W fun en w' => en = .returned (qaf (qdG x y)) ∧ Kept W w') := fun W h => qhd x (negS y) W hx (qfi hy) (hT.kept h)
 generalize qdG x y = R at *
 generalize negS y = z at *
 obtain ⟨xn, xs, xe⟩ := x
 obtain ⟨yn, ys, ye⟩ := y
 obtain ⟨zn, zs, ze⟩ := z
 simp only at ALL NEG ADD ⊢
 clear hx hy hT
 go_enter func103, ntmps103
 go_upto_region 1 with fail
 obtain ⟨b, w1, hw, hb, B0, B1, B2, K1, HB⟩ := qct w (LC0 xn xs xe) 24 (LC0 yn ys ye) 24 (LC0 false ⟨#[]⟩ 0) 24
 rw [← hw, ← hb]; clear hw hb
 obtain ⟨c0, c1, c2⟩ := B0.out.c3
 obtain ⟨d0, d1, d2⟩ := B1.out.c3
 have SK : Hid (∀ W, Kept w1 W → (W.cell? ⟨b, 0, none⟩ = some (.bool xn) ∧ W.cell? ⟨b, 1, none⟩ = some (.string xs) ∧ W.cell? ⟨b, 2, none⟩ = some (.int .i64 xe)) ∧ W.cell? ⟨b + 1, 0, none⟩ = some (.bool yn) ∧ W.cell? ⟨b + 1, 1, none⟩ = some (.string ys) ∧ W.cell? ⟨b + 1, 2, none⟩ = some (.int .i64 ye)) := fun W h => ⟨(B0.out.kept h).c3, (B1.out.kept h).c3⟩
 go_wp2_with (go_at_call 106; (with_reducible refine (ALL.out _ _ ?_).mono ?_); (exact Bx.new _ _ _ _ rfl); rintro e w3 ⟨rfl, hk3⟩; have K3 := qh ((Kept.new (Below.refl _ _) _).trans' hk3); clear hk3)
 have K3d := qh (K3.out.trans' (Below.refl _ w3).drew)
 have hS0 := SK.out _ K3d.out
 refine qab (fun W => (W.cell? ⟨b, 0, none⟩ = some (.bool xn) ∧ W.cell? ⟨b, 1, none⟩ = some (.string xs) ∧ W.cell? ⟨b, 2, none⟩ = some (.int .i64 xe)) ∧ W.cell? ⟨b + 1, 0, none⟩ = some (.bool yn) ∧ W.cell? ⟨b + 1, 1, none⟩ = some (.string ys) ∧ W.cell? ⟨b + 1, 2, none⟩ = some (.int .i64 ye)) [6,7] (by kernel_rfl) ?_ (fun hHeld => ?_)
 ·assumption
 refine wS 0 12 ?_
 refine wS 1 13 ?_
 refine oS 2 fun K hK => ?_
 go_simp
 (refine (NEG.out _).mono ?_; rintro e w4 ⟨rfl, hk4⟩; have K4 := qh (K3d.out.trans' hk4); have hS4 := SK.out _ K4.out)
 refine hK.out _ _ ?_ (fun hHeld => ?_)
 ·assumption
 clear hK K
 try simp only [Act.put, tdy]
 refine oS 3 fun K hK => ?_
 go_simp
 (refine (ADD.out _ (K1.out.trans' K4.out)).mono ?_; rintro e w5 ⟨rfl, hk5⟩; have K5 := qh (K4.out.trans' hk5); have hS5 := SK.out _ K5.out)
 refine hK.out _ _ ?_ (fun hHeld => ?_)
 ·assumption
 clear hK K
 try simp only [Act.put, tdy]
 refine wS 4 16 ?_
 refine wS 5 17 ?_
 obtain ⟨e0, e1, e2⟩ := (B2.out.kept K5.out).c3
 obtain ⟨f0, f1, f2⟩ := (B2.out.kept K5.out).f3
 refine eS 6 fun K hK => ?_
 go_simp
 refine hK.out _ _ ?_
 clear hK K
 try simp only [Act.put, tdy]
 refine eS 7 fun K hK => ?_
 go_simp
 refine hK.out _ _ ?_
 clear hK K
 try simp only [Act.put, tdy]
 refine dS ?_ _
 go_wp2_with fail
 exact bodyPost_ret (v := qaf R) (by simp [results, results103, go_sem, e0, e1, e2, qaf]) rfl ⟨rfl, (K1.out.trans' K5.out).qaL (by have := HB.out; omega) _ _ _⟩
theorem qod (p r : Nat) (x y : Int) (k j : Nat) (W : World) (hk : k ≤ 100000000) (hj : j ≤ 100000000) (h : qaq W p x k) (h' : qaq W r y j) :
  Calls prog 139 #[.pointer (some ⟨p, 0, none⟩), .pointer (some ⟨p, 0, none⟩), .pointer (some ⟨r, 0, none⟩)] W fun e w' => e = .returned (.pointer (some ⟨p, 0, none⟩)) ∧ qaq w' p (x * y) (k + j) ∧ W.grownBy w' (some p) := by
 obtain ⟨b, u, hb, hu⟩ := h.box
 exact qmZ p r p b u x y k j W h h' hk hj hb hu
theorem qgQ (x y : DyD) (w : World) (hx : qad x = true) (hy : qad y = true) (hT : T32 w) :
  Calls prog 97 #[.agg #[.bool x.neg, .string x.n, .int .i64 x.e], .agg #[.bool y.neg, .string y.n, .int .i64 y.e]] w fun en w' => en = .returned (qaf (mulS x y)) ∧ Kept w w' := by
 have ALL := qh (qfr x y hx hy)
 have WX := qh (qck x hx)
 have WY := qh (qck y hy)
 have hxe := (qag hx).2.2.2
 have hye := (qag hy).2.2.2
 have MADE : Hid (∀ W p, Kept w W → qaq W p (x.num * y.num) 8194 → Calls prog 133 #[.pointer (some ⟨p, 0, none⟩), .int .i64 (x.e + y.e)] W fun en w' => en = .returned (qaf (mulS x y)) ∧ Kept W w') := fun W p h hp =>
  qha p _ _ 8194 W hp (by omega) (by omega) (by omega) (hT.kept h)
 generalize mulS x y = R at *
 obtain ⟨xn, xs, xe⟩ := x
 obtain ⟨yn, ys, ye⟩ := y
 simp only at ALL WX WY MADE hxe hye ⊢
 generalize (DyD.mk xn xs xe).num = X at *
 generalize (DyD.mk yn ys ye).num = Y at *
 obtain ⟨xe0, xe1⟩ := hxe
 obtain ⟨ye0, ye1⟩ := hye
 have ew : IntKind.i64.wrap (xe + ye) = xe + ye := IntWalk.i64_in _ (by omega)
 clear hx hy hT
 go_enter func97, ntmps97
 go_upto_region 1 with fail
 obtain ⟨b, w1, hw, hb, B0, B1, B2, K1, HB⟩ := qct w (LC0 xn xs xe) 24 (LC0 yn ys ye) 24 (LC0 false ⟨#[]⟩ 0) 24
 rw [← hw, ← hb]; clear hw hb
 obtain ⟨c0, c1, c2⟩ := B0.out.c3
 obtain ⟨d0, d1, d2⟩ := B1.out.c3
 have SK : Hid (∀ W, Kept w1 W → (W.cell? ⟨b, 0, none⟩ = some (.bool xn) ∧ W.cell? ⟨b, 1, none⟩ = some (.string xs) ∧ W.cell? ⟨b, 2, none⟩ = some (.int .i64 xe)) ∧ W.cell? ⟨b + 1, 0, none⟩ = some (.bool yn) ∧ W.cell? ⟨b + 1, 1, none⟩ = some (.string ys) ∧ W.cell? ⟨b + 1, 2, none⟩ = some (.int .i64 ye)) := fun W h => ⟨(B0.out.kept h).c3, (B1.out.kept h).c3⟩
 go_upto_region 3 with (go_at_call 106; (with_reducible refine (ALL.out _ _ ?_).mono ?_); (exact Bx.new _ _ _ _ rfl); rintro e w3 ⟨rfl, hk3⟩; have K3 := qh ((Kept.new (Below.refl _ _) _).trans' hk3); clear hk3; obtain ⟨c0, c1, c2⟩ := (B0.out.kept K3.out).c3)
 go_upto_region 4 with (go_at_call 109; (with_reducible refine (WX.out _).mono ?_); rintro e w4 ⟨p, rfl, hp, ip, hk4⟩)
 have K4 := qh (K3.out.trans' hk4)
 have hp1 := qh (Nat.le_trans K3.out.size hp)
 have IP4 := qh ip
 have K4d := qh (K4.out.trans' (Below.refl _ w4).drew)
 have hS0 := SK.out _ K4d.out
 clear c0 c1 c2 d0 d1 d2 ip hp hk4 K3 ALL WX
 refine qab (fun W => (W.cell? ⟨b, 0, none⟩ = some (.bool xn) ∧ W.cell? ⟨b, 1, none⟩ = some (.string xs) ∧ W.cell? ⟨b, 2, none⟩ = some (.int .i64 xe)) ∧ W.cell? ⟨b + 1, 0, none⟩ = some (.bool yn) ∧ W.cell? ⟨b + 1, 1, none⟩ = some (.string ys) ∧ W.cell? ⟨b + 1, 2, none⟩ = some (.int .i64 ye)) [13,14] (by kernel_rfl) ?_ (fun hHeld => ?_)
 ·assumption
 refine wS 0 15 ?_
 refine wS 1 16 ?_
 refine wS 2 17 ?_
 refine wS 5 20 ?_
 refine wS 6 21 ?_
 refine wS 7 22 ?_
 refine wS 8 23 ?_
 refine wS 9 24 ?_
 refine oS 3 fun K hK => ?_
 go_simp
 (refine (WY.out _).mono ?_; rintro e w5 ⟨q, rfl, hq, iq, hk5⟩; have K5 := qh (K4d.out.trans' hk5); have hS5 := SK.out _ K5.out; have IP5 := qh (IP4.out.kept (Kept.trans' (Below.refl _ w4).drew hk5)); have IQ5 := qh iq; clear iq hk5; have MUL : Hid (Calls prog 139 #[.pointer (some ⟨p, 0, none⟩), .pointer (some ⟨p, 0, none⟩), .pointer (some ⟨q, 0, none⟩)] w5 fun e w' => e = .returned (.pointer (some ⟨p, 0, none⟩)) ∧ qaq w' p (X * Y) (4097 + 4097) ∧ w5.grownBy w' (some p)) := qod p q X Y 4097 4097 w5 (by omega) (by omega) IP5.out IQ5.out)
 refine hK.out _ _ ?_ (fun hHeld => ?_)
 ·assumption
 clear hK K
 try simp only [Act.put, tdy]
 refine oS 4 fun K hK => ?_
 go_simp
 (refine MUL.out.mono ?_; rintro e w6 ⟨rfl, ip, hg6⟩; have K6 := qh (qaB K5.out hp1.out hg6); have hS6 := SK.out _ K6.out; have IP6 := qh (ip.more (j := 8194) (by omega)); clear hg6 ip)
 refine hK.out _ _ ?_ (fun hHeld => ?_)
 ·assumption
 clear hK K
 try simp only [Act.put, tdy]
 refine oS 10 fun K hK => ?_
 go_simp
 (refine (MADE.out _ _ (K1.out.trans' K6.out) IP6.out).mono ?_; rintro e w7 ⟨rfl, hk7⟩; have K7 := qh (K6.out.trans' hk7); have hS7 := SK.out _ K7.out)
 refine hK.out _ _ ?_ (fun hHeld => ?_)
 ·assumption
 clear hK K
 try simp only [Act.put, tdy]
 refine wS 11 26 ?_
 refine wS 12 27 ?_
 obtain ⟨e0, e1, e2⟩ := (B2.out.kept K7.out).c3
 obtain ⟨f0, f1, f2⟩ := (B2.out.kept K7.out).f3
 refine eS 13 fun K hK => ?_
 go_simp
 refine hK.out _ _ ?_
 clear hK K
 try simp only [Act.put, tdy]
 refine eS 14 fun K hK => ?_
 go_simp
 refine hK.out _ _ ?_
 clear hK K
 try simp only [Act.put, tdy]
 refine dS ?_ _
 go_wp2_with fail
 exact bodyPost_ret (v := qaf R) (by simp [results, results97, go_sem, e0, e1, e2, qaf]) rfl ⟨rfl, (K1.out.trans' K7.out).qaL (by have := HB.out; omega) _ _ _⟩
end
section
set_option maxHeartbeats 3200000
set_option maxRecDepth 100000
structure KB (w1 W : World) : Prop where
 k : Kept w1 W
theorem KB.on {w1 W W' : World} (h : KB w1 W) (hk : Kept W W') : KB w1 W' := ⟨h.k.trans' hk⟩
theorem qcU {n t k : Nat} (ht : qbs n t) (h1 : n < qjO k) : t ≤ 8 * k := by
 rw [qn1] at h1
 by_cases h2 : t = 0
 ·omega
 ·have h3 := Nat.lt_of_le_of_lt (ht.2 h2) h1
  rw [show (256 : Nat) = 2 ^ 8 by decide, ← Nat.pow_mul] at h3
  have := (Nat.pow_lt_pow_iff_right (show 1 < 2 by omega)).1 h3
  omega
theorem qdh (n : Nat) : ∃ p, qbs n p := by
 by_cases h : n = 0
 ·exact ⟨0, by rw [h]; exact qeI⟩
 ·exact ⟨n.log2 + 1, Nat.lt_log2_self, fun _ => by rw [Nat.add_sub_cancel]; exact Nat.log2_self_le h⟩
theorem qgX (d : DyD) (t : Nat) (w : World) (hd : qad d = true) (h0 : d.num ≠ 0) (ht : qbs d.num.natAbs t) :
  Calls prog 108 #[.agg #[.bool d.neg, .string d.n, .int .i64 d.e]] w fun en w' => en = .returned (.tuple #[.int .i64 ((t : Int) - 1 + d.e), .bool true]) ∧ Kept w w' := by
 have SX := qh (fun W => qcP d W hd)
 have WX := qh (qck d hd)
 have hxe := (qag hd).2.2.2
 have hs1 : ¬ d.num.sign = 0 := fun e => h0 (Int.sign_eq_zero_iff_zero.1 e)
 have BL : Hid (∀ W p, qaq W p d.num 4097 → Calls prog 149 #[.pointer (some ⟨p, 0, none⟩)] W fun e w' => e = .returned (.int .i64 (t : Int)) ∧ w' = W) := fun W p h =>
  (qf1 p d.num 4097 W h (by omega)).mono fun e w' ⟨t', h1, h2, h3, h4⟩ => ⟨by rw [h1, h2.uniq ht], h4⟩
 have ht9 : t ≤ 8 * 16384 := qcU ht (qag hd).1
 obtain ⟨xn, xs, xe⟩ := d
 simp only at SX WX hxe hs1 BL ⊢
 generalize (DyD.mk xn xs xe).num = X at *
 generalize X.sign = sg at *
 obtain ⟨xe0, xe1⟩ := hxe
 have ew : IntKind.i64.wrap ((t : Int) - 1 + xe) = (t : Int) - 1 + xe := IntWalk.i64_in _ (by omega)
 have ew2 : IntKind.i64.wrap ((t : Int) - 1) = (t : Int) - 1 := IntWalk.i64_in _ (by omega)
 clear hd h0 ht
 go_enter func108, ntmps108
 go_upto_region 1 with fail
 obtain ⟨b, w1, hw, hb, B0, K1, HB⟩ := qa4 w (LC0 xn xs xe) 24
 rw [← hw, ← hb]; clear hw hb
 obtain ⟨c0, c1, c2⟩ := B0.out.c3
 go_wp2_with (go_at_call 20; (with_reducible refine (SX.out _).mono ?_); rintro e w4 ⟨rfl, hk4⟩)
 have K4 := qh hk4
 have hS0 := (B0.out.kept (hk4.trans' (Below.refl _ w4).drew)).c3
 refine qab (fun W => W.cell? ⟨b, 0, none⟩ = some (.bool xn) ∧ W.cell? ⟨b, 1, none⟩ = some (.string xs) ∧ W.cell? ⟨b, 2, none⟩ = some (.int .i64 xe)) [7,8] (by kernel_rfl) ?_ (fun hHeld => ?_)
 ·assumption
 refine wS 0 7 ?_
 refine wS 4 11 ?_
 refine wS 5 12 ?_
 refine oS 1 fun K hK => ?_
 go_simp
 (refine (WX.out _).mono ?_; rintro e w5 ⟨p, rfl, hp, ip, hk5⟩; have K5 := qh (K4.out.trans' ((Below.refl _ w4).drew.trans (hk5.mono (Nat.le_refl _)))); have hS5 := (B0.out.kept K5.out).c3; have IP := qh ip)
 refine hK.out _ _ ?_ (fun hHeld => ?_)
 ·assumption
 clear hK K
 try simp only [Act.put, tdy]
 refine oS 2 fun K hK => ?_
 go_simp
 (refine (BL.out _ _ IP.out).mono ?_; rintro e w6 ⟨rfl, hw6⟩; subst hw6)
 refine hK.out _ _ ?_ (fun hHeld => ?_)
 ·assumption
 clear hK K
 try simp only [Act.put, tdy]
 refine wS 3 10 ?_
 refine wS 6 13 ?_
 refine eS 7 fun K hK => ?_
 go_simp
 refine hK.out _ _ ?_
 clear hK K
 try simp only [Act.put, tdy]
 refine eS 8 fun K hK => ?_
 go_simp
 refine hK.out _ _ ?_
 clear hK K
 try simp only [Act.put, tdy]
 refine dS ?_ _
 go_wp2_with fail
 go_ret2
 exact ⟨rfl, K1.out.trans' K5.out⟩
theorem qkV (p r : Nat) (x y : Int) (k j : Nat) (W : World) (hk : k ≤ 100000000) (hj : j ≤ 100000000) (h : qaq W p x k) (h' : qaq W r y j) :
  Calls prog 111 #[.pointer (some ⟨p, 0, none⟩), .pointer (some ⟨r, 0, none⟩)] W fun e w' => e = .returned (.int .i64 (qdA x y)) ∧ Kept W w' := qmP p r x y k j W h h' hk hj
theorem qdr (x y : DyD) (w : World) (hx : qad x = true) (hy : qad y = true) :
  Calls prog 69 #[.agg #[.bool x.neg, .string x.n, .int .i64 x.e], .agg #[.bool y.neg, .string y.n, .int .i64 y.e]] w fun en w' => en = .returned (.tuple #[.int .i64 (qbx x y), .int .i64 0]) ∧ Kept w w' := by
 have ALL := qh (qfr x y hx hy)
 have SX := qh (fun W => qcP x W hx)
 have SY := qh (fun W => qcP y W hy)
 have SG := qh (fun n W => qmL n W)
 by_cases h1 : x.num.sign ≠ y.num.sign ∨ x.num.sign = 0
 ·rw [qhr h1]
  obtain ⟨xn, xs, xe⟩ := x
  obtain ⟨yn, ys, ye⟩ := y
  simp only at ALL SX SY ⊢
  obtain ⟨sg, hsg⟩ : ∃ s, s = (DyD.mk xn xs xe).num.sign := ⟨_, rfl⟩
  obtain ⟨sh, hsh⟩ : ∃ s, s = (DyD.mk yn ys ye).num.sign := ⟨_, rfl⟩
  rw [← hsg] at SX h1 ⊢
  rw [← hsh] at SY h1 ⊢
  have r1 : -1 ≤ sg ∧ sg ≤ 1 := by rw [hsg]; have := Int.sign_trichotomy (DyD.mk xn xs xe).num; omega
  have r2 : -1 ≤ sh ∧ sh ≤ 1 := by rw [hsh]; have := Int.sign_trichotomy (DyD.mk yn ys ye).num; omega
  have ew : IntKind.i64.wrap (sg - sh) = sg - sh := IntWalk.i64_in _ (by omega)
  clear hsg hsh hx hy
  go_enter func69, ntmps69
  go_upto_region 1 with fail
  obtain ⟨b, w1, hw, hb, B0, B1, K1, HB⟩ := qa7 w (LC0 xn xs xe) 24 (LC0 yn ys ye) 24
  rw [← hw, ← hb]; clear hw hb
  obtain ⟨c0, c1, c2⟩ := B0.out.c3
  obtain ⟨d0, d1, d2⟩ := B1.out.c3
  have SK : Hid (∀ W, Kept w1 W → (W.cell? ⟨b, 0, none⟩ = some (.bool xn) ∧ W.cell? ⟨b, 1, none⟩ = some (.string xs) ∧ W.cell? ⟨b, 2, none⟩ = some (.int .i64 xe)) ∧ W.cell? ⟨b + 1, 0, none⟩ = some (.bool yn) ∧ W.cell? ⟨b + 1, 1, none⟩ = some (.string ys) ∧ W.cell? ⟨b + 1, 2, none⟩ = some (.int .i64 ye)) := fun W h => ⟨(B0.out.kept h).c3, (B1.out.kept h).c3⟩
  go_upto_region 3 with (go_at_call 106; (with_reducible refine (ALL.out _ _ ?_).mono ?_); (exact Bx.new _ _ _ _ rfl); rintro e w3 ⟨rfl, hk3⟩; have K3 := qh ((Kept.new (Below.refl _ _) _).trans' hk3); clear hk3)
  clear c0 c1 c2 d0 d1 d2 ALL
  refine wp_region_quiet (C := (KB w1)) (by kernel_rfl) (by kernel_rfl) ?_ ?_
  ·exact ⟨K3.out.trans' (Below.refl _ w3).drew⟩
  dsimp only [List.take]
  refine wQ (some 20) ?_ fun wr hw => (by (obtain ⟨⟨c0, c1, c2⟩, d0, d1, d2⟩ := SK.out _ hw.k); go_simp; (try with_reducible rfl))
  refine qbK (v := ?_) (f := ?_) (args := ?_) (some 21) rfl (by kernel_rfl) (fun wr hw => ?_) (fun wr hw => ?_) ?_
  rotate_left 3
  ·(obtain ⟨⟨c0, c1, c2⟩, d0, d1, d2⟩ := SK.out _ hw.k); go_simp; refine ⟨?_, ?_⟩ <;> with_reducible rfl
  ·refine (SX.out wr).mono ?_; rintro e w' ⟨rfl, hk⟩; refine ⟨?_, hw.on hk⟩; with_reducible rfl
  try simp only [Act.put, tdy]
  refine wQ (some 22) ?_ fun wr hw => (by (obtain ⟨⟨c0, c1, c2⟩, d0, d1, d2⟩ := SK.out _ hw.k); go_simp; (try with_reducible rfl))
  refine qbK (v := ?_) (f := ?_) (args := ?_) (some 23) rfl (by kernel_rfl) (fun wr hw => ?_) (fun wr hw => ?_) ?_
  rotate_left 3
  ·(obtain ⟨⟨c0, c1, c2⟩, d0, d1, d2⟩ := SK.out _ hw.k); go_simp; refine ⟨?_, ?_⟩ <;> with_reducible rfl
  ·refine (SY.out wr).mono ?_; rintro e w' ⟨rfl, hk⟩; refine ⟨?_, hw.on hk⟩; with_reducible rfl
  try simp only [Act.put, tdy]
  refine wQ (some 6) ?_ fun wr hw => (by (obtain ⟨⟨c0, c1, c2⟩, d0, d1, d2⟩ := SK.out _ hw.k); go_simp; (try with_reducible rfl))
  refine wQ (some 7) ?_ fun wr hw => (by (obtain ⟨⟨c0, c1, c2⟩, d0, d1, d2⟩ := SK.out _ hw.k); go_simp; (try with_reducible rfl))
  refine wpQuiet_nil ?_
  intro wq hq
  have K4 := qh hq.k
  rcases h1 with h1 | h1
  ·go_wp2_with (go_at_call 107; (with_reducible refine (SG.out _ _).mono ?_); rintro e w5 ⟨rfl, hw5⟩; subst hw5)
   go_ret2
   exact ⟨rfl, K1.out.trans' K4.out⟩
  ·subst h1
   by_cases h2 : (0 : Int) = sh
   ·subst h2
    go_wp2_with (go_at_call 107; (with_reducible refine (SG.out _ _).mono ?_); rintro e w5 ⟨rfl, hw5⟩; subst hw5)
    go_ret2
    exact ⟨rfl, K1.out.trans' K4.out⟩
   ·go_wp2_with (go_at_call 107; (with_reducible refine (SG.out _ _).mono ?_); rintro e w5 ⟨rfl, hw5⟩; subst hw5)
    go_ret2
    exact ⟨by simp, K1.out.trans' K4.out⟩
 ·have h2 : x.num.sign = y.num.sign := by
   rcases Int.lt_trichotomy x.num.sign y.num.sign with h | h | h
   ·exact absurd (.inl (by omega)) h1
   ·exact h
   ·exact absurd (.inl (by omega)) h1
  have h3 : x.num.sign ≠ 0 := fun e => h1 (.inr e)
  have hx0 : x.num ≠ 0 := fun e => h3 (by rw [e]; rfl)
  have hy0 : y.num ≠ 0 := fun e => h3 (by rw [h2, e]; rfl)
  obtain ⟨p, hp⟩ := qdh x.num.natAbs
  obtain ⟨q, hq⟩ := qdh y.num.natAbs
  have TX := qh (fun W => qgX x p W hx hx0 hp)
  have TY := qh (fun W => qgX y q W hy hy0 hq)
  have WX := qh (qck x hx)
  have WY := qh (qck y hy)
  have hxe := (qag hx).2.2.2
  have hye := (qag hy).2.2.2
  have hp9 : p ≤ 8 * 16384 := qcU hp (qag hx).1
  have hq9 : q ≤ 8 * 16384 := qcU hq (qag hy).1
  have HT := qh (fun h => qjA h2 hx0 hp hq h)
  have HC := qh (show qbx x y = qdA (x.num * 2 ^ (x.e - min x.e y.e).toNat) (y.num * 2 ^ (y.e - min x.e y.e).toNat) from rfl)
  rw [← h2] at SY
  generalize qbx x y = R at *
  obtain ⟨xn, xs, xe⟩ := x
  obtain ⟨yn, ys, ye⟩ := y
  simp only at ALL SX SY TX TY WX WY HT HC hxe hye h3 ⊢
  clear h1 h2 hx0 hy0 hp hq hx hy
  generalize (DyD.mk xn xs xe).num = X at *
  generalize (DyD.mk yn ys ye).num = Y at *
  have r1 : X.sign = -1 ∨ X.sign = 1 := by have := Int.sign_trichotomy X; omega
  generalize X.sign = sg at *
  obtain ⟨xe0, xe1⟩ := hxe
  obtain ⟨ye0, ye1⟩ := hye
  obtain ⟨P, hP⟩ : ∃ P : Int, P = p - 1 + xe := ⟨_, rfl⟩
  obtain ⟨Q, hQ⟩ : ∃ Q : Int, Q = q - 1 + ye := ⟨_, rfl⟩
  rw [← hP] at TX
  rw [← hQ] at TY
  have hP1 : -2000000 ≤ P ∧ P ≤ 2000000 := by omega
  have hQ1 : -2000000 ≤ Q ∧ Q ≤ 2000000 := by omega
  have HT2 : Hid (P ≠ Q → R = sg * (P - Q).sign) := fun h => by
   rw [HT.out (by omega)]
   congr 2; omega
  clear HT hP hQ hp9 hq9
  have e1 : (sg != sg) = false := by simp
  have hsg0 : (sg == 0) = false := by simp; omega
  go_enter func69, ntmps69
  go_upto_region 1 with fail
  obtain ⟨b, w1, hw, hb, B0, B1, K1, HB⟩ := qa7 w (LC0 xn xs xe) 24 (LC0 yn ys ye) 24
  rw [← hw, ← hb]; clear hw hb
  obtain ⟨c0, c1, c2⟩ := B0.out.c3
  obtain ⟨d0, d1, d2⟩ := B1.out.c3
  have SK : Hid (∀ W, Kept w1 W → (W.cell? ⟨b, 0, none⟩ = some (.bool xn) ∧ W.cell? ⟨b, 1, none⟩ = some (.string xs) ∧ W.cell? ⟨b, 2, none⟩ = some (.int .i64 xe)) ∧ W.cell? ⟨b + 1, 0, none⟩ = some (.bool yn) ∧ W.cell? ⟨b + 1, 1, none⟩ = some (.string ys) ∧ W.cell? ⟨b + 1, 2, none⟩ = some (.int .i64 ye)) := fun W h => ⟨(B0.out.kept h).c3, (B1.out.kept h).c3⟩
  go_upto_region 3 with (go_at_call 106; (with_reducible refine (ALL.out _ _ ?_).mono ?_); (exact Bx.new _ _ _ _ rfl); rintro e w3 ⟨rfl, hk3⟩; have K3 := qh ((Kept.new (Below.refl _ _) _).trans' hk3); clear hk3)
  clear c0 c1 c2 d0 d1 d2 ALL
  refine wp_region_quiet (C := (KB w1)) (by kernel_rfl) (by kernel_rfl) ?_ ?_
  ·exact ⟨K3.out.trans' (Below.refl _ w3).drew⟩
  dsimp only [List.take]
  refine wQ (some 20) ?_ fun wr hw => (by (obtain ⟨⟨c0, c1, c2⟩, d0, d1, d2⟩ := SK.out _ hw.k); go_simp; (try with_reducible rfl))
  refine qbK (v := ?_) (f := ?_) (args := ?_) (some 21) rfl (by kernel_rfl) (fun wr hw => ?_) (fun wr hw => ?_) ?_
  rotate_left 3
  ·(obtain ⟨⟨c0, c1, c2⟩, d0, d1, d2⟩ := SK.out _ hw.k); go_simp; refine ⟨?_, ?_⟩ <;> with_reducible rfl
  ·refine (SX.out wr).mono ?_; rintro e w' ⟨rfl, hk⟩; refine ⟨?_, hw.on hk⟩; with_reducible rfl
  try simp only [Act.put, tdy]
  refine wQ (some 22) ?_ fun wr hw => (by (obtain ⟨⟨c0, c1, c2⟩, d0, d1, d2⟩ := SK.out _ hw.k); go_simp; (try with_reducible rfl))
  refine qbK (v := ?_) (f := ?_) (args := ?_) (some 23) rfl (by kernel_rfl) (fun wr hw => ?_) (fun wr hw => ?_) ?_
  rotate_left 3
  ·(obtain ⟨⟨c0, c1, c2⟩, d0, d1, d2⟩ := SK.out _ hw.k); go_simp; refine ⟨?_, ?_⟩ <;> with_reducible rfl
  ·refine (SY.out wr).mono ?_; rintro e w' ⟨rfl, hk⟩; refine ⟨?_, hw.on hk⟩; with_reducible rfl
  try simp only [Act.put, tdy]
  refine wQ (some 6) ?_ fun wr hw => (by (obtain ⟨⟨c0, c1, c2⟩, d0, d1, d2⟩ := SK.out _ hw.k); go_simp; (try with_reducible rfl))
  refine wQ (some 7) ?_ fun wr hw => (by (obtain ⟨⟨c0, c1, c2⟩, d0, d1, d2⟩ := SK.out _ hw.k); go_simp; (try with_reducible rfl))
  refine wpQuiet_nil ?_
  intro wq hq
  have K4 := qh hq.k
  clear SX SY hq K3
  obtain ⟨⟨c0, c1, c2⟩, d0, d1, d2⟩ := SK.out _ K4.out
  by_cases hne : P = Q
  ·subst hne
   obtain ⟨lo, hlo⟩ : ∃ lo, lo = min xe ye := ⟨_, rfl⟩
   have l1 : (if xe < ye then xe else ye) = lo := by rw [hlo]; split <;> omega
   have l3 : (if ye < xe then ye else xe) = lo := by rw [hlo]; split <;> omega
   have b1 : lo ≤ xe := by omega
   have b2 : lo ≤ ye := by omega
   have b4 : -1048576 ≤ lo := by omega
   have b5 : lo ≤ 1048576 := by omega
   obtain ⟨sx, hsx⟩ : ∃ s : Nat, (s : Int) = xe - lo := ⟨(xe - lo).toNat, by omega⟩
   obtain ⟨sy, hsy⟩ : ∃ s : Nat, (s : Int) = ye - lo := ⟨(ye - lo).toNat, by omega⟩
   rw [← hlo, ← hsx, ← hsy, Int.toNat_natCast, Int.toNat_natCast] at HC
   have x9 : sx ≤ 2097152 := by omega
   have y9 : sy ≤ 2097152 := by omega
   have u1 : IntKind.u64.wrap (sx : Int) = sx := by rw [IntKind.wrap_u64]; omega
   have u2 : IntKind.u64.wrap (sy : Int) = sy := by rw [IntKind.wrap_u64]; omega
   have u3 : IntKind.i64.wrap (xe - lo) = sx := by rw [IntWalk.i64_in _ (by omega), hsx]
   have u4 : IntKind.i64.wrap (ye - lo) = sy := by rw [IntWalk.i64_in _ (by omega), hsy]
   have u5 : IntKind.i64.wrap (sx : Int) = sx := IntWalk.i64_in _ (by omega)
   have u6 : IntKind.i64.wrap (sy : Int) = sy := IntWalk.i64_in _ (by omega)
   replace hlo := hlo.symm
   replace hsx := hsx.symm
   replace hsy := hsy.symm
   go_upto_region 11 with (first
    | (go_at_call 108; (with_reducible refine (TX.out _).mono ?_); rintro e w5 ⟨rfl, hk5⟩; have K5 := qh (K4.out.trans' hk5); obtain ⟨⟨c0, c1, c2⟩, d0, d1, d2⟩ := SK.out _ K5.out)
    | (go_at_call 108; (with_reducible refine (TY.out _).mono ?_); rintro e w6 ⟨rfl, hk6⟩; have K6 := qh (K5.out.trans' hk6); obtain ⟨⟨c0, c1, c2⟩, d0, d1, d2⟩ := SK.out _ K6.out))
   clear TX TY K4 K5 hk5 hk6 HT2
   go_upto_region 12 with (go_at_call 109; (with_reducible refine (WX.out _).mono ?_); rintro e w7 ⟨p, rfl, hp, ip, hk7⟩)
   have K7 := qh (K6.out.trans' hk7)
   have hp1 := qh (Nat.le_trans K6.out.size hp)
   obtain ⟨⟨c0, c1, c2⟩, d0, d1, d2⟩ := SK.out _ K7.out
   have IP := qh ip
   clear WX hk7 hp ip K6
   go_upto_region 13 with (go_at_call 109; (with_reducible refine (WY.out _).mono ?_); rintro e w8 ⟨q, rfl, hq, iq, hk8⟩)
   have K8 := qh (K7.out.trans' hk8)
   have hne : p ≠ q := by have := IP.out.lt; omega
   have hne' : q ≠ p := fun e => hne e.symm
   have hq1 := qh (Nat.le_trans K7.out.size hq)
   have K8d := qh (K8.out.trans' (Below.refl _ w8).drew)
   have IP8 := qh (IP.out.kept (hk8.trans' (Below.refl _ w8).drew))
   have IQ8 := qh (iq.kept (Below.refl _ w8).drew)
   have hS0 := SK.out _ K8d.out
   clear WY hk8 hq iq K7 IP c0 c1 c2 d0 d1 d2
   have LX : Hid (∀ W, qaq W p X 4097 → Calls prog 110 #[.pointer (some ⟨p, 0, none⟩), .pointer (some ⟨p, 0, none⟩), .int .u64 (sx : Int)] W fun e w' => e = .returned (.pointer (some ⟨p, 0, none⟩)) ∧ qaq w' p (X * 2 ^ sx) 100000 ∧ W.grownBy w' (some p)) := fun W h =>
    (qfA p X 4097 sx W (by omega) (by omega) h).mono fun e w' ⟨h1, h2, h3⟩ => ⟨h1, h2.more (by omega), h3⟩
   have LY : Hid (∀ W, qaq W q Y 4097 → Calls prog 110 #[.pointer (some ⟨q, 0, none⟩), .pointer (some ⟨q, 0, none⟩), .int .u64 (sy : Int)] W fun e w' => e = .returned (.pointer (some ⟨q, 0, none⟩)) ∧ qaq w' q (Y * 2 ^ sy) 100000 ∧ W.grownBy w' (some q)) := fun W h =>
    (qfA q Y 4097 sy W (by omega) (by omega) h).mono fun e w' ⟨h1, h2, h3⟩ => ⟨h1, h2.more (by omega), h3⟩
   have CMP : Hid (∀ W, qaq W p (X * 2 ^ sx) 100000 → qaq W q (Y * 2 ^ sy) 100000 → Calls prog 111 #[.pointer (some ⟨p, 0, none⟩), .pointer (some ⟨q, 0, none⟩)] W fun e w' => e = .returned (.int .i64 R) ∧ Kept W w') := fun W h h' => by
    rw [HC.out]; exact qkV p q _ _ 100000 100000 W (by omega) (by omega) h h'
   refine qab (fun W => (W.cell? ⟨b, 0, none⟩ = some (.bool xn) ∧ W.cell? ⟨b, 1, none⟩ = some (.string xs) ∧ W.cell? ⟨b, 2, none⟩ = some (.int .i64 xe)) ∧ W.cell? ⟨b + 1, 0, none⟩ = some (.bool yn) ∧ W.cell? ⟨b + 1, 1, none⟩ = some (.string ys) ∧ W.cell? ⟨b + 1, 2, none⟩ = some (.int .i64 ye)) [17,18] (by kernel_rfl) ?_ (fun hHeld => ?_)
   ·assumption
   refine wS 0 63 ?_
   refine wS 1 64 ?_
   refine wS 2 65 ?_
   refine wS 3 66 ?_
   refine wS 4 67 ?_
   refine wS 5 68 ?_
   refine wS 6 69 ?_
   refine wS 8 71 ?_
   refine wS 9 72 ?_
   refine wS 10 73 ?_
   refine wS 11 74 ?_
   refine wS 12 75 ?_
   refine wS 13 76 ?_
   refine wS 14 77 ?_
   refine oS 7 fun K hK => ?_
   go_simp
   (refine (LX.out _ IP8.out).mono ?_; rintro e w9 ⟨rfl, ip, hg9⟩; have K9 := qh (qaB K8d.out hp1.out hg9); have hS9 := SK.out _ K9.out; have IQ9 := qh (IQ8.out.grown IP8.out hg9 hne'); have IP9 := qh ip)
   refine hK.out _ _ ?_ (fun hHeld => ?_)
   ·assumption
   clear hK K
   try simp only [Act.put, tdy]
   refine oS 15 fun K hK => ?_
   go_simp
   (refine (LY.out _ IQ9.out).mono ?_; rintro e w10 ⟨rfl, iq, hg10⟩; have K10 := qh (qaB K9.out hq1.out hg10); have hS10 := SK.out _ K10.out; have IP10 := qh (IP9.out.grown IQ9.out hg10 hne); have IQ10 := qh iq)
   refine hK.out _ _ ?_ (fun hHeld => ?_)
   ·assumption
   clear hK K
   try simp only [Act.put, tdy]
   refine oS 16 fun K hK => ?_
   go_simp
   (refine (CMP.out _ IP10.out IQ10.out).mono ?_; rintro e w11 ⟨rfl, hk11⟩; have K11 := qh (K10.out.trans' hk11); have hS11 := SK.out _ K11.out)
   refine hK.out _ _ ?_ (fun hHeld => ?_)
   ·assumption
   clear hK K
   try simp only [Act.put, tdy]
   refine eS 17 fun K hK => ?_
   go_simp
   refine hK.out _ _ ?_
   clear hK K
   try simp only [Act.put, tdy]
   refine eS 18 fun K hK => ?_
   go_simp
   refine hK.out _ _ ?_
   clear hK K
   try simp only [Act.put, tdy]
   refine dS ?_ _
   go_wp2_with fail
   go_ret2
   exact ⟨rfl, K1.out.trans' K11.out⟩
  ·have HR := qh (HT2.out hne)
   have ew : IntKind.i64.wrap (P - Q) = P - Q := IntWalk.i64_in _ (by omega)
   obtain ⟨S, hS⟩ : ∃ S, S = (P - Q).sign := ⟨_, rfl⟩
   have hS1 : -1 ≤ S ∧ S ≤ 1 := by rw [hS]; have := Int.sign_trichotomy (P - Q); omega
   rw [← hS] at HR
   have SG2 : Hid (∀ W, Calls prog 107 #[.int .i64 (P - Q)] W fun en w' => en = .returned (.int .i64 S) ∧ w' = W) := fun W => by rw [hS]; exact SG.out _ W
   have ew2 : IntKind.i64.wrap (sg * S) = sg * S := IntWalk.i64_in _ (by rcases r1 with rfl | rfl <;> omega)
   clear hS
   go_wp2_with (first
    | (go_at_call 108; (with_reducible refine (TX.out _).mono ?_); rintro e w5 ⟨rfl, hk5⟩; have K5 := qh (K4.out.trans' hk5); obtain ⟨⟨c0, c1, c2⟩, d0, d1, d2⟩ := SK.out _ K5.out)
    | (go_at_call 108; (with_reducible refine (TY.out _).mono ?_); rintro e w6 ⟨rfl, hk6⟩; have K6 := qh (K5.out.trans' hk6))
    | (go_at_call 107; (with_reducible refine (SG2.out _).mono ?_); rintro e w7 ⟨rfl, hw7⟩; subst hw7))
   go_ret2
   exact ⟨by rw [HR.out]; rfl, K1.out.trans' K6.out⟩
end
section
set_option maxHeartbeats 1600000
set_option maxRecDepth 100000
theorem qdW (d : DyD) (w : World) (hd : d.ok) : Calls prog 73 #[.agg #[.bool d.neg, .string d.n, .int .i64 d.e]] w fun e w' => e = .returned (.bool (qad d)) ∧ Kept w w' := by
 obtain ⟨neg, s, x⟩ := d
 obtain ⟨hs, hx0, hx1⟩ := hd
 simp only at hs hx0 hx1 ⊢
 by_cases h0 : s.size = 0
 ·have hE := qcW s h0
  subst hE
  by_cases hx : x = 0
  ·subst hx
   cases neg with
   | false =>
    go_enter func73, ntmps73
    go_wp2
    go_ret
    exact ⟨rfl, Kept.new (Below.refl _ _) _⟩
   | true =>
    go_enter func73, ntmps73
    go_wp2
    go_ret
    exact ⟨rfl, Kept.new (Below.refl _ _) _⟩
  ·have HX := qh hx
   go_enter func73, ntmps73
   go_wp2
   go_ret
   exact ⟨qby (by simp [qad, HX.out]), Kept.new (Below.refl _ _) _⟩
 ·have hp : 0 < s.size := by omega
  have hd0 : s.data.toList ≠ [] := by
   intro h; exact h0 (by rw [← ByteArray.size_data, ← Array.length_toList, h]; rfl)
  have hz : s.toList = [] ↔ False := by
   rw [Lib.toList_data]
   exact ⟨fun h => hd0 h, False.elim⟩
  have hz1 : s.toList.isEmpty = false := by
   cases h : s.toList with
   | nil => exact (hz.1 h).elim
   | cons x l => rfl
  have hne : s ≠ ⟨#[]⟩ := fun h => h0 (by rw [h]; rfl)
  have hpI : (0 : Int) < s.size := by omega
  have k1 : (0 : Int) ≤ (s.size : Int) - 1 := by omega
  have k2 : (s.size : Int) - 1 < s.size := by omega
  have k3 : ((s.size : Int) - 1).toNat = s.size - 1 := by omega
  have k4 : IntKind.i64.wrap ((s.size : Int) - 1) = (s.size : Int) - 1 := IntWalk.i64_in _ (by unfold maxLen at hs; omega)
  have k5 : s.size - 1 < s.size := by omega
  have HD : Hid (qad ⟨neg, s, x⟩ = (decide (s.size ≤ 16384) && (decide (s[0] ≠ 0) && (decide ((s[s.size - 1]'k5).toNat % 2 = 1) && (decide (-1048576 ≤ x) && decide (x ≤ 1048576)))))) := by
   have hlen : s.data.toList.length = s.size := by rw [Array.length_toList, ByteArray.size_data]
   show _ = _
   rw [Bool.eq_iff_iff]
   simp [qad, qfM, hd0, qhv s hp, head_data s hp, hlen, and_assoc]
  obtain ⟨y, hy⟩ : ∃ y, s[s.size - 1]'k5 = y := ⟨_, rfl⟩
  obtain ⟨u, hu⟩ : ∃ u, s[0] = u := ⟨_, rfl⟩
  rw [hy, hu] at HD
  by_cases a1 : s.size ≤ 16384
  ·have i1 : (s.size : Int) ≤ 16384 := by omega
   by_cases a2 : u = 0
   ·subst a2
    go_enter func73, ntmps73
    go_wp2_with fail
    go_ret
    exact ⟨qby (by rw [HD.out]; simp), Kept.new (Below.refl _ _) _⟩
   ·have i2 : ((u.toNat : Int) == 0) = false := by
     rw [beq_eq_false_iff_ne]; intro h
     exact a2 (UInt8.toNat_inj.1 (by simpa using h))
    have i2' : ¬ (u.toNat : Int) = 0 := by simpa using i2
    have i4 : ((u.toNat : Int) != 0) = true := by simpa using i2'
    have hyb := y.toNat_lt
    obtain ⟨n, hn⟩ : ∃ n, n = y.toNat := ⟨_, rfl⟩
    have HA := qh a2
    by_cases a3 : y.toNat % 2 = 1
    ·have i3 : (y.toNat : Int) % 2 = 1 := by omega
     by_cases a4 : -1048576 ≤ x
     ·by_cases a5 : x ≤ 1048576
      ·go_enter func73, ntmps73
       go_wp2_with fail
       go_ret
       exact ⟨qby (by rw [HD.out]; rw [decide_eq_true HA.out]; simp [a1, a3, a4, a5]; try omega), Kept.new (Below.refl _ _) _⟩
      ·go_enter func73, ntmps73
       go_wp2_with fail
       go_ret
       exact ⟨qby (by rw [HD.out]; simp; omega), Kept.new (Below.refl _ _) _⟩
     ·go_enter func73, ntmps73
      go_wp2_with fail
      go_ret
      exact ⟨qby (by rw [HD.out]; simp; omega), Kept.new (Below.refl _ _) _⟩
    ·have i3 : ¬ (y.toNat : Int) % 2 = 1 := by omega
     go_enter func73, ntmps73
     go_wp2_with fail
     go_ret
     exact ⟨qby (by rw [HD.out]; simp; omega), Kept.new (Below.refl _ _) _⟩
  ·have i1 : ¬ (s.size : Int) ≤ 16384 := by omega
   go_enter func73, ntmps73
   go_wp2_with fail
   go_ret
   exact ⟨qby (by rw [HD.out]; simp; omega), Kept.new (Below.refl _ _) _⟩
theorem qh1 (d : DyD) (w : World) (hd : qad d = true) : Calls prog 122 #[.agg #[.bool d.neg, .string d.n, .int .i64 d.e]] w fun en w' => en = .returned (.int .i64 d.num.sign) ∧ Kept w w' := by
 by_cases h0 : d.num = 0
 ·obtain rfl := (qag hd).2.1 h0
  show Calls prog 122 #[.agg #[.bool false, .string ⟨#[]⟩, .int .i64 0]] w fun en w' => en = .returned (.int .i64 0) ∧ Kept w w'
  go_enter func122, ntmps122
  go_wp2_with fail
  go_ret
  exact ⟨rfl, Kept.new (Below.refl _ _) _⟩
 ·have hne := qcG hd h0
  have hneg := qcp hd
  have HS := qh (show d.num.sign = if d.neg then -1 else 1 by
   rw [hneg]
   rcases Int.lt_trichotomy d.num 0 with h | h | h
   ·rw [Int.sign_eq_neg_one_of_neg h, decide_eq_true h]; rfl
   ·exact absurd h h0
   ·rw [Int.sign_eq_one_of_pos h, decide_eq_false (by omega)]; rfl)
  rw [HS.out]
  obtain ⟨neg, s, x⟩ := d
  simp only at hne ⊢
  have hd0 : s.data.toList ≠ [] := fun h => hne ((qbG s).1 h)
  have hz : s.toList = [] ↔ False := by
   rw [Lib.toList_data]
   exact ⟨fun h => hd0 h, False.elim⟩
  have hz1 : s.toList.isEmpty = false := by
   cases h : s.toList with
   | nil => exact (hz.1 h).elim
   | cons x l => rfl
  clear HS hneg h0 hd hd0
  cases neg with
  | false =>
   go_enter func122, ntmps122
   go_wp2_with fail
   go_ret
   exact ⟨rfl, Kept.new (Below.refl _ _) _⟩
  | true =>
   go_enter func122, ntmps122
   go_wp2_with fail
   go_ret
   exact ⟨rfl, Kept.new (Below.refl _ _) _⟩
theorem qhj (d : DyD) (w : World) (hd : qad d = true) : Calls prog 159 #[.agg #[.bool d.neg, .string d.n, .int .i64 d.e]] w fun en w' => en = .returned (dyV (negS d)) ∧ Kept w w' := by
 by_cases h0 : d.num = 0
 ·obtain rfl := (qag hd).2.1 h0
  show Calls prog 159 #[.agg #[.bool false, .string ⟨#[]⟩, .int .i64 0]] w fun en w' => en = .returned (dyV zD) ∧ Kept w w'
  go_enter func159, ntmps159
  go_upto_region 1 with fail
  obtain ⟨b, w1, hw, hb, B0, B1, K1, HB⟩ := qa7 w (LC0 false ⟨#[]⟩ 0) 24 (LC0 false ⟨#[]⟩ 0) 24
  rw [← hw, ← hb]; clear hw hb
  obtain ⟨c0, c1, c2⟩ := B0.out.c3
  obtain ⟨d0, d1, d2⟩ := B1.out.c3
  obtain ⟨f0, f1, f2⟩ := B1.out.f3
  go_wp2_with fail
  exact bodyPost_ret (v := dyV zD) (by simp [results, results159, go_sem, d0, d1, d2, dyV, zD]) rfl ⟨rfl, K1.out.qaL (by have := HB.out; omega) _ _ _⟩
 ·have hne := qcG hd h0
  have HS := qh (show negS d = ⟨!d.neg, d.n, d.e⟩ by unfold negS; rw [if_neg h0])
  rw [HS.out]
  obtain ⟨neg, s, x⟩ := d
  simp only at hne ⊢
  have hd0 : s.data.toList ≠ [] := fun h => hne ((qbG s).1 h)
  have hz : s.toList = [] ↔ False := by
   rw [Lib.toList_data]
   exact ⟨fun h => hd0 h, False.elim⟩
  have hz1 : s.toList.isEmpty = false := by
   cases h : s.toList with
   | nil => exact (hz.1 h).elim
   | cons x l => rfl
  clear HS h0 hd hd0
  go_enter func159, ntmps159
  go_upto_region 1 with fail
  obtain ⟨b, w1, hw, hb, B0, B1, K1, HB⟩ := qa7 w (LC0 neg s x) 24 (LC0 false ⟨#[]⟩ 0) 24
  rw [← hw, ← hb]; clear hw hb
  obtain ⟨c0, c1, c2⟩ := B0.out.c3
  obtain ⟨e0, e1, e2⟩ := B0.out.f3
  obtain ⟨d0, d1, d2⟩ := B1.out.c3
  obtain ⟨f0, f1, f2⟩ := B1.out.f3
  go_wp2_with fail
  exact bodyPost_ret (v := dyV ⟨!neg, s, x⟩) (by simp [results, results159, go_sem, d0, d1, d2, dyV]) rfl ⟨rfl, (K1.out.set HB.out _ _).qaL (by have := HB.out; omega) _ _ _⟩
theorem qmw {d : DyD} (h : qad d = true) : d.n.data.toList.head? ≠ some 0 := by
 rcases qdH h with rfl | ⟨h1, -⟩
 ·decide
 ·exact h1
theorem qkr {d : DyD} (hd : qad d = true) (w : World) : Calls prog 124 #[.string d.n] w fun e w' => ∃ A c l, e = .returned (.slice A l.length c) ∧ l.length ≤ c ∧ l.length ≤ 16384 ∧ Row w' A (qaU l) ∧ D8 l d.num.natAbs ∧ Kept w w' := by
 have hs := qdx hd
 refine (qkR d.n w (by omega)).mono ?_
 rintro e w' ⟨v, rfl, ho, hk⟩
 obtain ⟨A, c, rfl, hnc, hcm, hrow, -, -⟩ := ho.form
 have hl := qe4 d.n
 exact ⟨A, c, ofL d.n, by rw [hl], by omega, by omega, hrow, by rw [qdS]; exact qk2 (qmw hd), hk⟩
theorem qhB (neg : Bool) (n : Nat) (z e : Int) (w : World) (hn : n < 18446744073709551616) (hz : z.natAbs = n) (hneg : z ≠ 0 → neg = decide (z < 0)) (he : e.natAbs ≤ 1000000000) :
  Calls prog 156 (LC0 neg (qa8 n) e).toArray w fun en w' => en = .returned (qaf (qbh z e)) ∧ Kept w w' := by
 have hsz : (qa8 n).size ≤ 8 := (qgH n 8).2 hn
 have hh : (qa8 n).data.toList.head? ≠ some 0 := by
  show (qay n).toArray.toList.head? ≠ some 0
  rw [List.toList_toArray]; exact qgd n
 have OF : Hid (∀ W, Kept w W → Calls prog 124 #[.string (qa8 n)] W fun e w' => ∃ A c l, e = .returned (.slice A l.length c) ∧ l.length ≤ c ∧ l.length ≤ 8 ∧ Row w' A (qaU l) ∧ D8 l n ∧ Kept W w') := fun W hk => by
  refine (qkR (qa8 n) W (by omega)).mono ?_
  rintro e w' ⟨v, rfl, ho, hk⟩
  obtain ⟨A, c, rfl, hnc, hcm, hrow, -, -⟩ := ho.form
  have hl := qe4 (qa8 n)
  have hv := qk2 hh
  rw [qgi] at hv
  exact ⟨A, c, ofL (qa8 n), by rw [hl], by omega, by omega, hrow, hv, hk⟩
 have FIT : Hid (∀ W A c (l : List Nat), l.length ≤ 8 → l.length ≤ c → Row W A (qaU l) → D8 l n → Calls prog 135 #[.bool neg, .slice A l.length c, .int .i64 e] W fun en w' => en = .returned (qaf (qbh z e)) ∧ Kept W w') := fun W A c l h1 h2 h3 h4 =>
  qju neg A c l n z e W (by omega) h3 h2 h4 hz hneg he
 generalize qbh z e = R at *
 have hgo : (qa8 n).size = 0 ∨ (0 < (qa8 n).size ∧ ∃ u : UInt8, (qa8 n).data.toList.head? = some u ∧ ((u.toNat : Int) == 0) = false) := by
  by_cases h : (qa8 n).size = 0
  ·exact .inl h
  ·refine .inr ⟨by omega, _, head_data _ (by omega), ?_⟩
   rw [head_data _ (by omega)] at hh
   rw [beq_eq_false_iff_ne]; intro e
   exact hh (by congr 1; exact UInt8.toNat_inj.1 (by simpa using e))
 generalize qa8 n = s at *
 clear hn hz hneg hh
 rcases hgo with h0 | ⟨hp, u, hu, hu0⟩
 ·have hE := qcW s h0
  subst hE
  go_enter func156, ntmps156
  go_upto_region 1 with fail
  obtain ⟨b, w1, hw, hb, B0, K1, HB⟩ := qa4 w (LC0 false ⟨#[]⟩ 0) 24
  rw [← hw, ← hb]; clear hw hb
  go_wp2_with (first
   | (go_at_call 124; (with_reducible refine (OF.out _ K1.out).mono ?_); rintro e w2 ⟨A, c, l, rfl, h1, h2, h3, h4, hk2⟩; have F1 := qh (FIT.out w2 A c l h2 h1 h3 h4); clear h3 h4 h1 h2)
   | (go_at_call 135; (with_reducible refine F1.out.mono ?_); rintro e w3 ⟨rfl, hk3⟩; have K3 := qh ((K1.out.trans' hk2).trans' hk3); have B3 := qh ((B0.out.kept hk2).kept hk3); obtain ⟨c0, c1, c2⟩ := B3.out.c3; obtain ⟨f0, f1, f2⟩ := B3.out.f3))
  exact bodyPost_ret (v := qaf R) (by simp [results, results156, go_sem, c0, c1, c2, qaf]) rfl ⟨rfl, K3.out.qaL HB.out _ _ _⟩
 ·have hs0 : s[0] = u := by
   have := head_data s hp
   rw [hu] at this; exact (Option.some.inj this).symm
  have hpI : (0 : Int) < s.size := by omega
  have h16 : ¬ (16384 : Int) < s.size := by omega
  have HU := qh hu
  clear hu
  go_enter func156, ntmps156
  go_upto_region 1 with fail
  obtain ⟨b, w1, hw, hb, B0, K1, HB⟩ := qa4 w (LC0 false ⟨#[]⟩ 0) 24
  rw [← hw, ← hb]; clear hw hb
  go_wp2_with (first
   | (go_at_call 124; (with_reducible refine (OF.out _ K1.out).mono ?_); rintro e w2 ⟨A, c, l, rfl, h1, h2, h3, h4, hk2⟩; have F1 := qh (FIT.out w2 A c l h2 h1 h3 h4); clear h3 h4 h1 h2)
   | (go_at_call 135; (with_reducible refine F1.out.mono ?_); rintro e w3 ⟨rfl, hk3⟩; have K3 := qh ((K1.out.trans' hk2).trans' hk3); have B3 := qh ((B0.out.kept hk2).kept hk3); obtain ⟨c0, c1, c2⟩ := B3.out.c3; obtain ⟨f0, f1, f2⟩ := B3.out.f3))
  exact bodyPost_ret (v := qaf R) (by simp [results, results156, go_sem, c0, c1, c2, qaf]) rfl ⟨rfl, K3.out.qaL HB.out _ _ _⟩
end
theorem qaI (b : Nat) (w : World) : (callFunc 82 #[.float .f64 b]).run prog w = .ok (.value (.int .u64 b)) w := by
 exact (Go.run_callFunc_extern (e := Extern.MathFloatBits.float64bits) func82 (by kernel_rfl) (by kernel_rfl) (by kernel_rfl) (by kernel_rfl) _ w).trans rfl
theorem qaJ (n : Int) (w : World) : (callFunc 86 #[.int .u64 n]).run prog w = .ok (.value (.float .f64 n.toNat)) w := by
 exact (Go.run_callFunc_extern (e := Extern.MathFloatBits.float64frombits) func86 (by kernel_rfl) (by kernel_rfl) (by kernel_rfl) (by kernel_rfl) _ w).trans rfl
theorem qd9 {x y : Nat} (hx : x < 18446744073709551616) (hy : y < 18446744073709551616) : bits .and .u64 (x : Int) (y : Int) = ((x &&& y : Nat) : Int) := by
 have h1 : BitVec.ofInt 64 (x : Int) = BitVec.ofNat 64 x := by rw [BitVec.ofInt_natCast]
 have h2 : BitVec.ofInt 64 (y : Int) = BitVec.ofNat 64 y := by rw [BitVec.ofInt_natCast]
 have h3 : (BitVec.ofInt 64 (x : Int) &&& BitVec.ofInt 64 (y : Int)).toNat = x &&& y := by
  rw [h1, h2, BitVec.toNat_and, BitVec.toNat_ofNat, BitVec.toNat_ofNat, Nat.mod_eq_of_lt hx, Nat.mod_eq_of_lt hy]
 have h4 : x &&& y ≤ x := Nat.and_le_left
 show IntKind.u64.wrap (((BitVec.ofInt 64 (x : Int) &&& BitVec.ofInt 64 (y : Int)).toNat : Nat) : Int) = _
 rw [h3]
 exact IntWalk.u64_in _ (by omega)
theorem ql7 {x : Nat} (hx : x < 18446744073709551616) : x &&& 2 ^ 63 = if x < SG then 0 else 2 ^ 63 := by
 refine Nat.eq_of_testBit_eq fun i => ?_
 rw [Nat.testBit_and, Nat.testBit_two_pow]
 by_cases hi : 63 = i
 ·subst hi
  by_cases h : x < SG
  ·rw [if_pos h, Nat.testBit_lt_two_pow (show x < 2 ^ 63 from h)]; simp
  ·rw [if_neg h]
   have h1 : x / 2 ^ 63 < 2 := Nat.div_lt_of_lt_mul (by omega)
   have h2 : 1 ≤ x / 2 ^ 63 := (Nat.le_div_iff_mul_le (by decide)).2 (by unfold SG at h; omega)
   have h3 : x / 2 ^ 63 = 1 := by omega
   rw [Nat.testBit_eq_decide_div_mod_eq, h3]; decide
 ·by_cases h : x < SG
  ·simp [h, hi]
  ·rw [if_neg h, Nat.testBit_two_pow]; simp [hi]
theorem qiz {x : Nat} (hx : x < 18446744073709551616) : bits .andNot .u64 (x : Int) 9223372036854775808 = ((qdZ x : Nat) : Int) := by
 have h1 : BitVec.ofInt 64 (x : Int) = BitVec.ofNat 64 x := by rw [BitVec.ofInt_natCast]
 have h3 : (BitVec.ofInt 64 (x : Int) &&& ~~~(BitVec.ofInt 64 9223372036854775808)).toNat = qdZ x := by
  have h5 : ~~~(BitVec.ofInt 64 9223372036854775808) = BitVec.ofNat 64 (2 ^ 63 - 1) := by decide
  rw [h1, h5, BitVec.toNat_and, BitVec.toNat_ofNat, BitVec.toNat_ofNat, Nat.mod_eq_of_lt hx, Nat.mod_eq_of_lt (by decide), Nat.and_two_pow_sub_one_eq_mod]
  rfl
 have h4 : qdZ x ≤ x := Nat.mod_le _ _
 show IntKind.u64.wrap (((BitVec.ofInt 64 (x : Int) &&& ~~~(BitVec.ofInt 64 9223372036854775808)).toNat : Nat) : Int) = _
 rw [h3]
 exact IntWalk.u64_in _ (by omega)
theorem qau {P : Program} (x : Nat) (w : World) : (Op.unary .neg (.float .f64 x)).run P w = .ok (.float .f64 (qo5 x)) w := rfl
theorem qah {P : Program} {w : World} {a : Addr} {m : Mode} (k : FloatKind) (b : Nat) : (store a (.float k b) m).run P w = stored P w a (.float k b) m := run_store P w a _ m rfl
theorem qae {P : Program} {w : World} {a : Addr} {m : Mode} (k : FloatKind) (b c : Nat) : (store a (.complex k b c) m).run P w = stored P w a (.complex k b c) m := run_store P w a _ m rfl
section
set_option maxRecDepth 100000
attribute [local go_sem] run_float_arith qaI qaJ qau qah qae
theorem qjg (x : Nat) (h : x < 18446744073709551616) (w : World) : Calls prog 180 #[.float .f64 x] w fun e w' => e = .returned (.float .f64 (qdZ x)) ∧ w' = w := by
 have hB := qiz h
 clear h
 go_enter func180, ntmps180
 go_wp2
 go_ret
 exact ⟨rfl, rfl⟩
theorem qek (x : Nat) (v : Bool) (hv : (FloatKind.f64.format.order x x == some .eq) = v) (w : World) : Calls prog 144 #[.float .f64 x] w fun e w' => e = .returned (.bool (!v)) ∧ w' = w := by
 rw [← hv]
 clear hv
 go_enter func144, ntmps144
 go_wp2
 go_ret
 exact ⟨rfl, rfl⟩
theorem qg6 (x : Nat) (h : x < 18446744073709551616) (v : Bool) (hv : (FloatKind.f64.format.order (qdZ x) 9218868437227405311 == some .gt) = v) (w : World) : Calls prog 145 #[.float .f64 x, .int .i64 0] w fun e w' => e = .returned (.bool v) ∧ w' = w := by
 have CA := qh (qjg x h)
 go_enter func145, ntmps145
 go_wp2_with (go_at_call 180; (with_reducible refine (CA.out _).mono ?_); rintro e w1 ⟨rfl, hw⟩; subst hw)
 go_ret
 exact ⟨rfl, rfl⟩
theorem qiA {x : Nat} (h : qbQ x = true) : qbQ (qdZ x) = true := by
 unfold qbQ qdZ SG at *
 rw [Nat.mod_mod]; exact h
theorem qkU (x : Nat) : qdZ x < 18446744073709551616 := by unfold qdZ SG; omega
theorem qjh {x : Nat} (hx : x < 18446744073709551616) : bits BinOp.and .u64 (x : Int) 4503599627370495 = ((x % 4503599627370496 : Nat) : Int) := by
 have := qd9 (x := x) (y := 4503599627370495) hx (by omega)
 rw [show ((4503599627370495 : Nat) : Int) = 4503599627370495 from rfl] at this
 rw [this, show (4503599627370495 : Nat) = 2 ^ 52 - 1 by decide, Nat.and_two_pow_sub_one_eq_mod]
theorem qiE {y : Nat} (hy : y < 18446744073709551616) : bits BinOp.and .u64 (y : Int) 2047 = ((y % 2048 : Nat) : Int) := by
 have := qd9 (x := y) (y := 2047) hy (by omega)
 rw [show ((2047 : Nat) : Int) = 2047 from rfl] at this
 rw [this, show (2047 : Nat) = 2 ^ 11 - 1 by decide, Nat.and_two_pow_sub_one_eq_mod]
theorem qmY {m : Nat} (hm : m < 4503599627370496) : bits BinOp.or .i64 (m : Int) 4503599627370496 = ((m + 4503599627370496 : Nat) : Int) := by
 have h1 : (BitVec.ofInt 64 (m : Int)).toNat = m := by
  rw [BitVec.ofInt_natCast, BitVec.toNat_ofNat]; exact Nat.mod_eq_of_lt (by omega)
 have h2 : (BitVec.ofInt 64 (4503599627370496 : Int)).toNat = 4503599627370496 := by decide
 show IntKind.i64.wrap ((BitVec.ofInt 64 (m : Int) ||| BitVec.ofInt 64 (4503599627370496 : Int)).toNat : Int) = _
 have h3 : m ||| 4503599627370496 = m + 4503599627370496 := by
  have := qeH 1 m 52 (by rw [show (2 : Nat) ^ 52 = 4503599627370496 by decide]; exact hm)
  rw [show 1 * 2 ^ 52 = 4503599627370496 by decide] at this
  rw [this]; omega
 rw [BitVec.toNat_or, h1, h2, h3, IntKind.wrap_i64]
 omega
set_option maxHeartbeats 3200000 in
theorem qeY (x : Nat) (w : World) (hx : x < 18446744073709551616) (hT : T32 w) :
  Calls prog 101 #[.float .f64 x] w fun en w' => en = .returned (qaf (qa9 x)) ∧ Kept w w' := by
 by_cases hf : qbQ x = true
 ·have o1 : (FloatKind.f64.format.order x x == some .eq) = true := qjc hx hf
  have o2 : (FloatKind.f64.format.order (qdZ x) 9218868437227405311 == some .gt) = false := qkN (qkU x) (qiA hf)
  have o3 : (FloatKind.f64.format.order x 0 == some .lt) = (decide (SG ≤ x) && decide (qar x ≠ 0)) := fin_neg hx hf
  have CN := qh (qek x true o1)
  have CI := qh (qg6 x hx false o2)
  have h1 := qcO hf
  have h2 := qew x
  obtain ⟨z, hz⟩ : ∃ z, z = qbP (decide (SG ≤ x)) (qar x) := ⟨_, rfl⟩
  have OF : Hid (∀ W, Kept w W → Calls prog 132 #[.int .i64 z, .int .i64 (qbk x)] W fun en w' => en = .returned (qaf (qa9 x)) ∧ Kept W w') := fun W h => by
   have e : qa9 x = qbh z (qbk x) := by unfold qa9; rw [if_pos hf, hz]
   rw [e]
   have hz9 : -9007199254740992 < z ∧ z < 9007199254740992 := by rw [hz]; unfold qbP; split <;> omega
   exact qnD z (qbk x) W (by omega) (by omega) (by omega) (by omega) (hT.kept h)
  generalize qa9 x = R at *
  obtain ⟨e, he⟩ : ∃ e, e = x / 4503599627370496 % 2048 := ⟨_, rfl⟩
  obtain ⟨m, hm⟩ : ∃ m, m = x % 4503599627370496 := ⟨_, rfl⟩
  have hm9 : m < 4503599627370496 := by omega
  have he9 : e < 2048 := by omega
  have b1 := qjh hx
  rw [← hm] at b1
  have b2 : bits BinOp.and .u64 ((x : Int) / 4503599627370496) 2047 = (e : Int) := by
   have := qiE (y := x / 4503599627370496) (by omega)
   rw [← he] at this
   rw [← this]; congr 1
  by_cases h0 : e = 0
  ·have em : qar x = m := by unfold qar; rw [if_pos (by omega)]; exact hm.symm
   have ee : qbk x = -1074 := by unfold qbk; rw [if_pos (by omega)]
   have HZ := qh hz
   rw [ee] at OF
   rw [em] at o3 HZ
   subst h0
   clear em ee h1 h2 he hm hz hT he9
   obtain ⟨lt, hlt⟩ : ∃ b, b = (decide (SG ≤ x) && decide (m ≠ 0)) := ⟨_, rfl⟩
   rw [← hlt] at o3
   cases lt with
   | false =>
    have e0 : z = ((m : Nat) : Int) := by
     rw [HZ.out]; unfold qbP
     by_cases hs : SG ≤ x
     ·rw [decide_eq_true hs, Bool.true_and] at hlt
      have : m = 0 := by have := of_decide_eq_false hlt.symm; omega
      rw [this]; simp
     ·rw [decide_eq_false hs]; simp
    rw [e0] at OF
    clear hlt HZ e0
    go_enter func101, ntmps101
    go_upto_region 1 with fail
    obtain ⟨b, w1, hw, hb, B0, K1, HB⟩ := qa4 w (LC0 false ⟨#[]⟩ 0) 24
    rw [← hw, ← hb]; clear hw hb
    go_wp2_with (first
     | (go_at_call 144; (with_reducible refine (CN.out _).mono ?_); rintro e w3 ⟨rfl, hw⟩; replace hw := hw.symm; subst hw)
     | (go_at_call 145; (with_reducible refine (CI.out _).mono ?_); rintro e w3 ⟨rfl, hw⟩; replace hw := hw.symm; subst hw)
     | (go_at_call 132; (with_reducible refine (OF.out _ K1.out).mono ?_); rintro e w4 ⟨rfl, hk4⟩; have K4 := qh hk4; obtain ⟨c0, c1, c2⟩ := (B0.out.kept hk4).c3; obtain ⟨f0, f1, f2⟩ := (B0.out.kept hk4).f3))
    exact bodyPost_ret (v := qaf R) (by simp [results, results101, go_sem, c0, c1, c2, qaf]) rfl ⟨rfl, (K1.out.trans' K4.out).qaL HB.out _ _ _⟩
   | true =>
    have e0 : z = -((m : Nat) : Int) := by
     rw [HZ.out]; unfold qbP
     rw [eq_comm, Bool.and_eq_true, decide_eq_true_eq] at hlt
     rw [decide_eq_true hlt.1]; simp
    rw [e0] at OF
    clear hlt HZ e0
    go_enter func101, ntmps101
    go_upto_region 1 with fail
    obtain ⟨b, w1, hw, hb, B0, K1, HB⟩ := qa4 w (LC0 false ⟨#[]⟩ 0) 24
    rw [← hw, ← hb]; clear hw hb
    go_wp2_with (first
     | (go_at_call 144; (with_reducible refine (CN.out _).mono ?_); rintro e w3 ⟨rfl, hw⟩; replace hw := hw.symm; subst hw)
     | (go_at_call 145; (with_reducible refine (CI.out _).mono ?_); rintro e w3 ⟨rfl, hw⟩; replace hw := hw.symm; subst hw)
     | (go_at_call 132; (with_reducible refine (OF.out _ K1.out).mono ?_); rintro e w4 ⟨rfl, hk4⟩; have K4 := qh hk4; obtain ⟨c0, c1, c2⟩ := (B0.out.kept hk4).c3; obtain ⟨f0, f1, f2⟩ := (B0.out.kept hk4).f3))
    exact bodyPost_ret (v := qaf R) (by simp [results, results101, go_sem, c0, c1, c2, qaf]) rfl ⟨rfl, (K1.out.trans' K4.out).qaL HB.out _ _ _⟩
  ·have em : qar x = m + 4503599627370496 := by unfold qar; rw [if_neg (by omega), hm]
   have ee : qbk x = (e : Int) - 1075 := by unfold qbk; rw [if_neg (by omega), he]
   have HZ := qh hz
   rw [ee] at OF
   obtain ⟨M, hM⟩ : ∃ M, M = m + 4503599627370496 := ⟨_, rfl⟩
   have b3 := qmY hm9
   rw [← hM] at b3
   rw [em, ← hM] at o3 HZ
   have hM9 : M < 9007199254740992 := by omega
   have h0i : ¬ (e : Int) = 0 := by omega
   clear em ee h1 h2 he hm hz hT h0 hM
   obtain ⟨lt, hlt⟩ : ∃ b, b = (decide (SG ≤ x) && decide (M ≠ 0)) := ⟨_, rfl⟩
   rw [← hlt] at o3
   cases lt with
   | false =>
    have e0 : z = ((M : Nat) : Int) := by
     rw [HZ.out]; unfold qbP
     by_cases hs : SG ≤ x
     ·rw [decide_eq_true hs, Bool.true_and] at hlt
      have : M = 0 := by have := of_decide_eq_false hlt.symm; omega
      rw [this]; simp
     ·rw [decide_eq_false hs]; simp
    rw [e0] at OF
    clear hlt HZ e0
    go_enter func101, ntmps101
    go_upto_region 1 with fail
    obtain ⟨b, w1, hw, hb, B0, K1, HB⟩ := qa4 w (LC0 false ⟨#[]⟩ 0) 24
    rw [← hw, ← hb]; clear hw hb
    go_wp2_with (first
     | (go_at_call 144; (with_reducible refine (CN.out _).mono ?_); rintro e w3 ⟨rfl, hw⟩; replace hw := hw.symm; subst hw)
     | (go_at_call 145; (with_reducible refine (CI.out _).mono ?_); rintro e w3 ⟨rfl, hw⟩; replace hw := hw.symm; subst hw)
     | (go_at_call 132; (with_reducible refine (OF.out _ K1.out).mono ?_); rintro e w4 ⟨rfl, hk4⟩; have K4 := qh hk4; obtain ⟨c0, c1, c2⟩ := (B0.out.kept hk4).c3; obtain ⟨f0, f1, f2⟩ := (B0.out.kept hk4).f3))
    exact bodyPost_ret (v := qaf R) (by simp [results, results101, go_sem, c0, c1, c2, qaf]) rfl ⟨rfl, (K1.out.trans' K4.out).qaL HB.out _ _ _⟩
   | true =>
    have e0 : z = -((M : Nat) : Int) := by
     rw [HZ.out]; unfold qbP
     rw [eq_comm, Bool.and_eq_true, decide_eq_true_eq] at hlt
     rw [decide_eq_true hlt.1]; simp
    rw [e0] at OF
    clear hlt HZ e0
    go_enter func101, ntmps101
    go_upto_region 1 with fail
    obtain ⟨b, w1, hw, hb, B0, K1, HB⟩ := qa4 w (LC0 false ⟨#[]⟩ 0) 24
    rw [← hw, ← hb]; clear hw hb
    go_wp2_with (first
     | (go_at_call 144; (with_reducible refine (CN.out _).mono ?_); rintro e w3 ⟨rfl, hw⟩; replace hw := hw.symm; subst hw)
     | (go_at_call 145; (with_reducible refine (CI.out _).mono ?_); rintro e w3 ⟨rfl, hw⟩; replace hw := hw.symm; subst hw)
     | (go_at_call 132; (with_reducible refine (OF.out _ K1.out).mono ?_); rintro e w4 ⟨rfl, hk4⟩; have K4 := qh hk4; obtain ⟨c0, c1, c2⟩ := (B0.out.kept hk4).c3; obtain ⟨f0, f1, f2⟩ := (B0.out.kept hk4).f3))
    exact bodyPost_ret (v := qaf R) (by simp [results, results101, go_sem, c0, c1, c2, qaf]) rfl ⟨rfl, (K1.out.trans' K4.out).qaL HB.out _ _ _⟩
 ·have HR : qa9 x = (zD, 5) := by unfold qa9; rw [if_neg hf]
  rw [HR]
  clear HR hT
  by_cases hn : qaP < x % 9223372036854775808
  ·have o1 : (FloatKind.f64.format.order x x == some .eq) = false := by
    rw [show FloatKind.f64.format.order x x = none from qlJ hn x]; rfl
   have CN := qh (qek x false o1)
   have CI := qh qek
   clear hf hn
   go_enter func101, ntmps101
   go_upto_region 1 with fail
   obtain ⟨b, w1, hw, hb, B0, K1, HB⟩ := qa4 w (LC0 false ⟨#[]⟩ 0) 24
   rw [← hw, ← hb]; clear hw hb
   obtain ⟨c0, c1, c2⟩ := B0.out.c3
   obtain ⟨f0, f1, f2⟩ := B0.out.f3
   go_wp2_with (first
    | (go_at_call 144; (with_reducible refine (CN.out _).mono ?_); rintro e w3 ⟨rfl, hw⟩; replace hw := hw.symm; subst hw)
    | (go_at_call 145; (with_reducible refine (CI.out _).mono ?_); rintro e w3 ⟨rfl, hw⟩; replace hw := hw.symm; subst hw))
   exact bodyPost_ret (v := qaf (zD, 5)) (by simp [results, results101, go_sem, c0, c1, c2, qaf, zD]) rfl ⟨rfl, K1.out.qaL HB.out _ _ _⟩
  ·have hi : x % 9223372036854775808 = qaP := by
    unfold qbQ at hf
    rw [decide_eq_true_eq] at hf
    omega
   have o1 : (FloatKind.f64.format.order x x == some .eq) = true := by
    show (Ieee.double.order x x == some .eq) = true
    unfold Ieee.Format.order
    rw [qjl hi]
    generalize (decide (SG ≤ x) && decide (x / 9223372036854775808 % 2 = 1)) = s
    cases s <;> decide
   have o2 : (FloatKind.f64.format.order (qdZ x) 9218868437227405311 == some .gt) = true := by
    show (Ieee.double.order (qdZ x) 9218868437227405311 == some .gt) = true
    unfold qdZ SG
    rw [hi]; decide +kernel
   have CN := qh (qek x true o1)
   have CI := qh (qg6 x hx true o2)
   clear hf hn hi
   go_enter func101, ntmps101
   go_upto_region 1 with fail
   obtain ⟨b, w1, hw, hb, B0, K1, HB⟩ := qa4 w (LC0 false ⟨#[]⟩ 0) 24
   rw [← hw, ← hb]; clear hw hb
   obtain ⟨c0, c1, c2⟩ := B0.out.c3
   obtain ⟨f0, f1, f2⟩ := B0.out.f3
   go_wp2_with (first
    | (go_at_call 144; (with_reducible refine (CN.out _).mono ?_); rintro e w3 ⟨rfl, hw⟩; replace hw := hw.symm; subst hw)
    | (go_at_call 145; (with_reducible refine (CI.out _).mono ?_); rintro e w3 ⟨rfl, hw⟩; replace hw := hw.symm; subst hw))
   exact bodyPost_ret (v := qaf (zD, 5)) (by simp [results, results101, go_sem, c0, c1, c2, qaf, zD]) rfl ⟨rfl, K1.out.qaL HB.out _ _ _⟩
end
end Go.Proofs.YtfdnledkcongaaaGreatDoor
