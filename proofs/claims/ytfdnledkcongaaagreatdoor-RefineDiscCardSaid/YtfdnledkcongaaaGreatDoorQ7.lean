/- Texts of one claim laid together: NeW, NeR, GaX, Geo, Geb, GaY, RsA, RsB. -/
import Derived.Test.YtfdnledkcongaaaGreatDoorQ6
set_option linter.all false
namespace Go.Proofs.YtfdnledkcongaaaGreatDoor
open Go.RowKit Go.Proofs.Tryz
section
set_option maxHeartbeats 3200000
set_option maxRecDepth 100000
theorem qdM (W : World) (q : Nat) (hq : q = W.heap.size) : qaq (W.alloc (.cells #[.bool false, .slice none 0 0] 231)) q 0 0 := qaY.qo8 (qaY.new W _ _ q hq)
theorem qiY (p q : Nat) (x y : Int) (k j s : Nat) (W : World) (hk : k ≤ 100000000) (hs : s ≤ 1000000000) (h : qaq W p x k) (hq : qaq W q y j) :
  Calls prog 110 #[.pointer (some ⟨q, 0, none⟩), .pointer (some ⟨p, 0, none⟩), .int .u64 (s : Int)] W fun e w' => e = .returned (.pointer (some ⟨q, 0, none⟩)) ∧ qaq w' q (x * 2 ^ s) (k + s / 32 + 1) ∧ W.grownBy w' (some q) := by
 obtain ⟨b, u, hb, hu⟩ := hq.box
 exact qiT p q b u x k s W h hk hs hb hu
theorem qnA (p q : Nat) (x : Nat) (y : Int) (k j s : Nat) (W : World) (hk : k ≤ 100000000) (hs : s ≤ 1000000000) (h : qaq W p (x : Int) k) (hq : qaq W q y j) :
  Calls prog 167 #[.pointer (some ⟨q, 0, none⟩), .pointer (some ⟨p, 0, none⟩), .int .u64 (s : Int)] W fun e w' => e = .returned (.pointer (some ⟨q, 0, none⟩)) ∧ qaq w' q ((x / 2 ^ s : Nat) : Int) k ∧ W.grownBy w' (some q) := by
 obtain ⟨b, u, hb, hu⟩ := hq.box
 exact qjw p q b u x s k W h hk hs hb hu
theorem qnf (p r q : Nat) (x y z : Int) (k j i : Nat) (W : World) (hk : k ≤ 100000000) (hj : j ≤ 100000000) (h : qaq W p x k) (h' : qaq W r y j) (hq : qaq W q z i) :
  Calls prog 188 #[.pointer (some ⟨q, 0, none⟩), .pointer (some ⟨p, 0, none⟩), .pointer (some ⟨r, 0, none⟩)] W fun e w' => e = .returned (.pointer (some ⟨q, 0, none⟩)) ∧ qaq w' q (x - y) (max k j + 1) ∧ W.grownBy w' (some q) := by
 obtain ⟨b, u, hb, hu⟩ := hq.box
 exact qm8 p r q b u x y k j W h h' hk hj hb hu
theorem qaq.over {W V W' : World} {p q : Nat} {z y : Int} {k j : Nat} (h : qaq W p z k) (hk : Kept W V) (hq : qaq V q y j) (hg : V.grownBy W' (some q)) (hne : p ≠ q) : qaq W' p z k := (h.kept hk).grown hq hg hne
def agS (n o : Nat) : Int := qdA ((n % 2 ^ o : Nat) : Int) ((2 ^ (o - 1) : Nat) : Int)
theorem qlG {n o p : Nat} (hp : qbs n p) (h : p < o) : n / 2 ^ o = 0 ∧ agS n o = -1 := by
 have h1 : 2 ^ p ≤ 2 ^ (o - 1) := Nat.pow_le_pow_right (by omega) (by omega)
 have h2 : 2 ^ (o - 1) ≤ 2 ^ o := Nat.pow_le_pow_right (by omega) (by omega)
 have h3 := hp.1
 have h4 : n < 2 ^ o := by omega
 refine ⟨Nat.div_eq_of_lt h4, ?_⟩
 unfold agS
 rw [Nat.mod_eq_of_lt h4]
 exact qb5 (by omega)
theorem qkc (d : DyD) (p : Nat) (w : World) (hd : qad d = true) (h0 : d.num ≠ 0) (hp : qbs d.num.natAbs p) (ht : (p : Int) - 1 + d.e < 1024) (hq : qan p d.e ≤ d.e) :
  Calls prog 177 #[.agg #[.bool d.neg, .string d.n, .int .i64 d.e], .int .i64 ((p : Int) - 1 + d.e)] w fun en w' => en = .returned (.tuple #[.int .u64 ((qbc d.num.natAbs d.e (qan p d.e) : Nat) : Int), .int .i64 (qan p d.e), .int .i64 0, .bool true]) ∧ Kept w w' := by
 have hk53 := qjt d.e hp
 have hkm : qbc d.num.natAbs d.e (qan p d.e) = d.num.natAbs * 2 ^ (d.e - qan p d.e).toNat := by unfold qbc; rw [if_pos hq]
 have hpp : p ≤ 8 * 16384 := qcU hp (qag hd).1
 have hxe := (qag hd).2.2.2
 obtain ⟨q, hqe⟩ : ∃ q, q = qan p d.e := ⟨_, rfl⟩
 have hl : q = max ((p : Int) - 1 + d.e - 52) (-1074) := hqe
 obtain ⟨s, hs⟩ : ∃ s : Nat, (s : Int) = d.e - q := ⟨(d.e - q).toNat, by omega⟩
 rw [← hqe] at hk53 hkm hq ⊢
 rw [← hs, Int.toNat_natCast] at hkm
 have hsz := qdx hd
 have hnum : qfl d.n = d.num.natAbs := (qdS d).symm
 obtain ⟨n, hn⟩ : ∃ n, n = d.num.natAbs := ⟨_, rfl⟩
 rw [← hn] at hk53 hkm hnum ⊢
 obtain ⟨M, hM⟩ : ∃ M, M = qbc n d.e q := ⟨_, rfl⟩
 rw [← hM] at hk53 hkm ⊢
 obtain ⟨neg, sx, x⟩ := d
 simp only at ht hq hl hs hsz hnum hxe hM ⊢
 obtain ⟨x0, x1⟩ := hxe
 obtain ⟨T, hT⟩ : ∃ T : Int, T = (p : Int) - 1 + x := ⟨_, rfl⟩
 rw [← hT] at ht hl ⊢
 have hT0 : -2000000 ≤ T := by omega
 have l1 : (if T - 52 < -1074 then -1074 else T - 52) = q := by rw [hl]; split <;> omega
 have l2 : (if -1074 < T - 52 then T - 52 else -1074) = q := by rw [hl]; split <;> omega
 have q0 : -1074 ≤ q := by omega
 have q1 : q ≤ 971 := by omega
 replace hl := hl.symm
 replace hs := hs.symm
 have s9 : s ≤ 2097152 := by omega
 have u1 : IntKind.u64.wrap (s : Int) = s := by rw [IntKind.wrap_u64]; omega
 have SET : Hid (∀ W (p : Nat) (A : Option Addr) (c : Nat), qaq W p 0 0 → Row W A (bytesV sx.data.toList) → Calls prog 150 #[.pointer (some ⟨p, 0, none⟩), .slice A sx.size c] W fun e w' => e = .returned (.pointer (some ⟨p, 0, none⟩)) ∧ qaq w' p (n : Int) 4097 ∧ W.grownBy w' (some p)) := fun W p A c hi hr => by
  obtain ⟨b, u, h, hu⟩ := hi.box
  have hl : sx.data.toList.length = sx.size := by rw [Array.length_toList, ByteArray.size_data]
  have := qdU p b u A c sx.data.toList W (by omega) hr h hu
  rw [hl, show qdb sx.data.toList = n from hnum] at this
  exact this.mono fun e w' ⟨h1, h2, h3⟩ => ⟨h1, h2.more (by omega), h3⟩
 have HM := qh hkm
 clear hd h0 hp hqe hnum hn hM hT hpp hkm
 go_enter func177, ntmps177
 go_upto_region 1 with fail
 obtain ⟨b, w1, hw, hb, B0, K1, HB⟩ := qa4 w (LC0 neg sx x) 24
 rw [← hw, ← hb]; clear hw hb
 obtain ⟨c0, c1, c2⟩ := B0.out.c3
 have hb1 := B0.out.lt
 go_upto_region 3 with ((with_reducible show wpList _ _ _ _ _ _); refine qcz _ rfl 22 97 5 _ rfl underlying22 underlying97 underlying5 sx rfl ?_ ?_)
 ·unfold maxLen; omega
 ·intro A c w2 hown hk2
  rw [qfP] at hown
  have HR := qh hown.row
  have I2 := qh ((qdM w1 w1.heap.size rfl).kept hk2)
  have K2 := qh ((Kept.new (Below.refl _ w1) _).trans' hk2)
  obtain ⟨g, hg⟩ : ∃ g, g = w1.heap.size := ⟨_, rfl⟩
  rw [← hg] at I2 ⊢
  have HG := qh (show w1.heap.size ≤ g by omega)
  clear hown hk2 hg
  go_upto_region 3 with (go_at_call 150; (with_reducible refine (SET.out _ _ _ _ I2.out HR.out).mono ?_); rintro e w3 ⟨rfl, h3, hg3⟩)
  have K3 := qh (qaB K2.out HG.out hg3)
  have I3 := qh h3
  obtain ⟨c0, c1, c2⟩ := (B0.out.kept K3.out).c3
  have LSH := qh (qfA g (n : Int) 4097 s w3 (by omega) (by omega) I3.out)
  clear hg3 h3 K2 I2 HR SET
  go_wp2_with (first
   | (go_at_call 110; (with_reducible refine LSH.out.mono ?_); rintro e w4 ⟨rfl, h4, hg4⟩; have K4 := qh (qaB K3.out HG.out hg4); have UI : Hid (Calls prog 187 #[.pointer (some ⟨g, 0, none⟩)] w4 fun e w' => e = .returned (.int .u64 (M : Int)) ∧ ∃ m, w' = w4.drewN m) := (qhP g _ _ w4 h4 (by omega)).mono (fun e w' ⟨h1, h2⟩ => ⟨by rw [h1]; congr 3; rw [qc9, Int.natAbs_natCast, ← HM.out]; exact Nat.mod_eq_of_lt (by omega), h2⟩); clear hg4 h4)
   | (go_at_call 187; (with_reducible refine UI.out.mono ?_); rintro e w5 ⟨rfl, nd, hw5⟩; subst hw5))
  exact bodyPost_ret (v := .tuple #[.int .u64 (M : Int), .int .i64 q, .int .i64 0, .bool true]) (by simp [results, results177, go_sem]) rfl ⟨rfl, qaz (K1.out.trans' K4.out) nd⟩
theorem qmx (d : DyD) (p : Nat) (w : World) (hd : qad d = true) (h0 : d.num ≠ 0) (hp : qbs d.num.natAbs p) (ht : (p : Int) - 1 + d.e < 1024) (hq : ¬ qan p d.e ≤ d.e) :
  Calls prog 177 #[.agg #[.bool d.neg, .string d.n, .int .i64 d.e], .int .i64 ((p : Int) - 1 + d.e)] w fun en w' => en = .returned (.tuple #[.int .u64 ((d.num.natAbs / 2 ^ (qan p d.e - d.e).toNat : Nat) : Int), .int .i64 (qan p d.e), .int .i64 (agS d.num.natAbs (qan p d.e - d.e).toNat), .bool false]) ∧ Kept w w' := by
 have hpp : p ≤ 8 * 16384 := qcU hp (qag hd).1
 have hxe := (qag hd).2.2.2
 obtain ⟨q, hqe⟩ : ∃ q, q = qan p d.e := ⟨_, rfl⟩
 have hl : q = max ((p : Int) - 1 + d.e - 52) (-1074) := hqe
 rw [← hqe] at hq ⊢
 obtain ⟨s, hs⟩ : ∃ s : Nat, (s : Int) = q - d.e := ⟨(q - d.e).toNat, by omega⟩
 rw [← hs, Int.toNat_natCast]
 have hsz := qdx hd
 have hnum : qfl d.n = d.num.natAbs := (qdS d).symm
 obtain ⟨n, hn⟩ : ∃ n, n = d.num.natAbs := ⟨_, rfl⟩
 rw [← hn] at hnum hp ⊢
 have hn1 : n < 2 ^ p := hp.1
 have hM54 : n / 2 ^ s < 18446744073709551616 := by
  have h1 : p ≤ s + 53 := by have : q = max ((p : Int) - 1 + d.e - 52) (-1074) := hl; omega
  have h2 : n / 2 ^ s < 2 ^ 53 := by
   rw [Nat.div_lt_iff_lt_mul (Nat.pow_pos (by omega)), ← Nat.pow_add]
   exact Nat.lt_of_lt_of_le hn1 (Nat.pow_le_pow_right (by omega) (by omega))
  have e53 : (2 : Nat) ^ 53 = 9007199254740992 := by decide
  omega
 have hsm := qh (fun h : p < s => qlG hp h)
 have hbl := qh hp
 obtain ⟨ag, hag⟩ : ∃ a, a = agS n s := ⟨_, rfl⟩
 rw [← hag] at hsm ⊢
 have HAG := qh hag
 have hn0 : n ≠ 0 := by omega
 obtain ⟨neg, sx, x⟩ := d
 simp only at ht hq hl hs hsz hnum hxe ⊢
 obtain ⟨x0, x1⟩ := hxe
 obtain ⟨T, hT⟩ : ∃ T : Int, T = (p : Int) - 1 + x := ⟨_, rfl⟩
 rw [← hT] at ht hl ⊢
 have hT0 : -2000000 ≤ T := by omega
 have l1 : (if T - 52 < -1074 then -1074 else T - 52) = q := by rw [hl]; split <;> omega
 have l2 : (if -1074 < T - 52 then T - 52 else -1074) = q := by rw [hl]; split <;> omega
 have q0 : -1074 ≤ q := by omega
 have q1 : q ≤ 971 := by omega
 replace hl := hl.symm
 replace hs := hs.symm
 have s9 : s ≤ 2097152 := by omega
 have s0 : 1 ≤ s := by omega
 have u3 : IntKind.u64.wrap ((s : Int) - 1) = ((s - 1 : Nat) : Int) := by rw [IntKind.wrap_u64]; omega
 have u1 : IntKind.u64.wrap (s : Int) = s := by rw [IntKind.wrap_u64]; omega
 have SET : Hid (∀ W (p : Nat) (A : Option Addr) (c : Nat), qaq W p 0 0 → Row W A (bytesV sx.data.toList) → Calls prog 150 #[.pointer (some ⟨p, 0, none⟩), .slice A sx.size c] W fun e w' => e = .returned (.pointer (some ⟨p, 0, none⟩)) ∧ qaq w' p (n : Int) 4097 ∧ W.grownBy w' (some p)) := fun W p A c hi hr => by
  obtain ⟨b, u, h, hu⟩ := hi.box
  have hl : sx.data.toList.length = sx.size := by rw [Array.length_toList, ByteArray.size_data]
  have := qdU p b u A c sx.data.toList W (by omega) hr h hu
  rw [hl, show qdb sx.data.toList = n from hnum] at this
  exact this.mono fun e w' ⟨h1, h2, h3⟩ => ⟨h1, h2.more (by omega), h3⟩
 clear hd h0 hp hqe hnum hn hT hag hn1
 go_enter func177, ntmps177
 go_upto_region 1 with fail
 obtain ⟨b, w1, hw, hb, B0, K1, HB⟩ := qa4 w (LC0 neg sx x) 24
 rw [← hw, ← hb]; clear hw hb
 obtain ⟨c0, c1, c2⟩ := B0.out.c3
 have hb1 := B0.out.lt
 go_upto_region 3 with ((with_reducible show wpList _ _ _ _ _ _); refine qcz _ rfl 22 97 5 _ rfl underlying22 underlying97 underlying5 sx rfl ?_ ?_)
 ·unfold maxLen; omega
 ·intro A c w2 hown hk2
  rw [qfP] at hown
  have HR := qh hown.row
  have I2 := qh ((qdM w1 w1.heap.size rfl).kept hk2)
  have K2 := qh ((Kept.new (Below.refl _ w1) _).trans' hk2)
  obtain ⟨g, hg⟩ : ∃ g, g = w1.heap.size := ⟨_, rfl⟩
  rw [← hg] at I2 ⊢
  have HG := qh (show w1.heap.size ≤ g by omega)
  clear hown hk2 hg
  go_upto_region 3 with (go_at_call 150; (with_reducible refine (SET.out _ _ _ _ I2.out HR.out).mono ?_); rintro e w3 ⟨rfl, h3, hg3⟩)
  have K3 := qh (qaB K2.out HG.out hg3)
  have I3 := qh h3
  obtain ⟨c0, c1, c2⟩ := (B0.out.kept K3.out).c3
  have BL : Hid (Calls prog 149 #[.pointer (some ⟨g, 0, none⟩)] w3 fun e w' => e = .returned (.int .i64 (p : Int)) ∧ w' = w3) :=
   (qf1 g (n : Int) 4097 w3 I3.out (by omega)).mono fun e w' ⟨t', h1, h2, h3, h4⟩ => ⟨by rw [h1]; rw [Int.natAbs_natCast] at h2; rw [h2.uniq hbl.out], h4⟩
  clear hg3 h3 K2 I2 HR SET
  by_cases hps : p < s
  ·have hpi : (p : Int) < s := by omega
   have HZ := qh (hsm.out hps)
   clear hsm
   go_wp2_with (go_at_call 149; (with_reducible refine BL.out.mono ?_); rintro e w4 ⟨rfl, hw4⟩; replace hw4 := hw4.symm; subst hw4)
   exact bodyPost_ret (v := .tuple #[.int .u64 0, .int .i64 q, .int .i64 (-1), .bool false]) (by simp [results, results177, go_sem]) rfl ⟨by rw [HZ.out.1, HZ.out.2]; rfl, K1.out.trans' K3.out⟩
  ·have hpi : ¬ (p : Int) < s := by omega
   clear hsm
   go_upto_region 8 with (go_at_call 149; (with_reducible refine BL.out.mono ?_); rintro e w4 ⟨rfl, hw4⟩; replace hw4 := hw4.symm; subst hw4)
   have hgw := I3.out.lt
   have RSH := qh (qnA g w3.heap.size n 0 4097 0 s (w3.alloc (.cells #[.bool false, .slice none 0 0] 231)) (by omega) (by omega) (I3.out.kept (Kept.new (Below.refl _ _) _)) (qdM w3 _ rfl))
   clear BL
   go_upto_region 9 with (go_at_call 167; (with_reducible refine RSH.out.mono ?_); rintro e w5 ⟨rfl, h5, hg5⟩)
   obtain ⟨g1, hg1⟩ : ∃ g, g = w3.heap.size := ⟨_, rfl⟩
   rw [← hg1] at h5 hg5 ⊢
   have I5 := qh (I3.out.over (Kept.new (Below.refl _ _) _) (qdM w3 g1 hg1) hg5 (by omega))
   have J5 := qh h5
   have K5 := qh (qaB (Kept.new K3.out _) (show w1.heap.size ≤ g1 by have := K3.out.size; omega) hg5)
   have g1g : g ≠ g1 := by omega
   have G1 := qh (show w1.heap.size ≤ g1 by have := K3.out.size; omega)
   clear hg1 hg5 h5 RSH I3 hgw K3
   have LSH := qh (qiY g1 (w5.heap.size + 1) ((n / 2 ^ s : Nat) : Int) 0 4097 0 s ((w5.alloc (.cells #[.bool false, .slice none 0 0] 231)).alloc (.cells #[.bool false, .slice none 0 0] 231)) (by omega) (by omega) (J5.out.kept (Kept.new (Kept.new (Below.refl _ _) _) _)) (qdM _ _ (by simp)))
   have hgw := I5.out.lt
   have hgw1 := J5.out.lt
   go_upto_region 10 with (first
    | (go_at_call 110; (with_reducible refine LSH.out.mono ?_); rintro e w6 ⟨rfl, h6, hg6⟩; have X6 := qdM (w5.alloc (.cells #[.bool false, .slice none 0 0] 231)) (w5.heap.size + 1) (by simp); have I6 := qh (I5.out.over (Kept.new (Kept.new (Below.refl _ _) _) _) X6 hg6 (by omega)); have J6 := qh (J5.out.over (Kept.new (Kept.new (Below.refl _ _) _) _) X6 hg6 (by omega)); have N6 := qh ((qdM w5 w5.heap.size rfl).over (Kept.new (Below.refl _ _) _) X6 hg6 (by omega)); have K6 := qh (qaB (Kept.new (Kept.new K5.out _) _) (show w1.heap.size ≤ w5.heap.size + 1 by have := K5.out.size; omega) hg6); have SUB := qh (qnf g (w5.heap.size + 1) w5.heap.size _ _ 0 4097 100000 0 w6 (by omega) (by omega) I6.out (h6.more (j := 100000) (by omega)) N6.out); clear X6 h6 hg6)
    | (go_at_call 188; (with_reducible refine SUB.out.mono ?_); rintro e w7 ⟨rfl, h7, hg7⟩))
   obtain ⟨g2, hg2⟩ : ∃ g, g = w5.heap.size := ⟨_, rfl⟩
   rw [← hg2] at h7 hg7 N6 ⊢
   have J7 := qh (J6.out.over (Below.refl _ _) N6.out hg7 (by omega))
   have R7 := qh h7
   have K7 := qh (qaB K6.out (show w1.heap.size ≤ g2 by have := K5.out.size; omega) hg7)
   have hg12 : g1 ≠ g2 := by omega
   clear hg2 hg7 h7 SUB LSH I6 J6 N6 K6 I5 J5 K5 hgw hgw1
   have NEW := qh (qjE 1 (w7.alloc (.cells #[.bool false, .slice none 0 0] 231)) (by omega) (by omega))
   have hgw1 := J7.out.lt
   have hgw2 := R7.out.lt
   go_upto_region 11 with (first
    | (go_at_call 165; (with_reducible refine NEW.out.mono ?_); rintro e w8 ⟨r, rfl, hr, h8, hk8⟩; have Q8 := (qdM w7 w7.heap.size rfl).kept hk8; have hne8 : w7.heap.size ≠ r := (by simp at hr; omega); have LSH := qh (qiY r w7.heap.size 1 0 2 0 (s - 1) w8 (by omega) (by omega) h8 Q8); have K8 := qh ((Kept.new (Below.refl _ w7) _).trans' hk8); have Q88 := qh Q8; clear hk8 h8 Q8)
    | (go_at_call 110; (with_reducible refine LSH.out.mono ?_); rintro e w9 ⟨rfl, h9, hg9⟩))
   have J9 := qh (J7.out.over K8.out Q88.out hg9 (by omega))
   have R9 := qh (R7.out.over K8.out Q88.out hg9 (by omega))
   have H9 := qh (h9.more (j := 100000) (by omega))
   have K9 := qh (qaB (K7.out.trans' K8.out) (show w1.heap.size ≤ w7.heap.size from K7.out.size) hg9)
   obtain ⟨g4, hg4⟩ : ∃ g, g = w7.heap.size := ⟨_, rfl⟩
   rw [← hg4] at H9 ⊢
   clear hg9 h9 LSH NEW J7 R7 K7 K8 Q88 hgw1 hgw2 hg4 hr hne8
   have UI : Hid (Calls prog 187 #[.pointer (some ⟨g1, 0, none⟩)] w9 fun e w' => e = .returned (.int .u64 ((n / 2 ^ s : Nat) : Int)) ∧ ∃ m, w' = w9.drewN m) := (qhP g1 _ _ w9 J9.out (by omega)).mono (fun e w' ⟨h1, h2⟩ => ⟨by rw [h1]; congr 3; rw [Int.natAbs_natCast]; exact Nat.mod_eq_of_lt hM54, h2⟩)
   have CMP : Hid (∀ k, Calls prog 111 #[.pointer (some ⟨g2, 0, none⟩), .pointer (some ⟨g4, 0, none⟩)] (w9.drewN k) fun e w' => e = .returned (.int .i64 ag) ∧ Kept (w9.drewN k) w') := fun k => by
    have h1 := qkV g2 g4 _ _ _ _ (w9.drewN k) (by omega) (by omega) (R9.out.kept (qaz (Below.refl _ _) k)) (H9.out.kept (qaz (Below.refl _ _) k))
    have e1 : (n : Int) - ((n / 2 ^ s : Nat) : Int) * 2 ^ s = ((n % 2 ^ s : Nat) : Int) := by
     have := Nat.div_add_mod n (2 ^ s)
     have e2 : ((n / 2 ^ s : Nat) : Int) * 2 ^ s = ((2 ^ s * (n / 2 ^ s) : Nat) : Int) := by
      rw [Int.natCast_mul, Int.natCast_pow, Int.mul_comm]; rfl
     rw [e2]; omega
    have e3 : (1 : Int) * 2 ^ (s - 1) = ((2 ^ (s - 1) : Nat) : Int) := by rw [Int.one_mul, Int.natCast_pow]; rfl
    rw [e1, e3] at h1
    rw [HAG.out]
    exact h1
   clear J9 R9 H9
   go_wp2_with (first
    | (go_at_call 187; (with_reducible refine UI.out.mono ?_); rintro e w10 ⟨rfl, nd, hw10⟩; subst hw10)
    | (go_at_call 111; (with_reducible refine (CMP.out _).mono ?_); rintro e w11 ⟨rfl, hk11⟩))
   exact bodyPost_ret (v := .tuple #[.int .u64 ((n / 2 ^ s : Nat) : Int), .int .i64 q, .int .i64 ag, .bool false]) (by simp [results, results177, go_sem]) rfl ⟨rfl, Kept.trans' (qaz (K1.out.trans' K9.out) nd) hk11⟩
theorem qfQ (ag : Int) (odd : Bool) (w : World) : Calls prog 143 #[.int .i64 ag, .bool odd] w fun e w' => e = .returned (.bool (decide (0 < ag) || (decide (ag = 0) && odd))) ∧ w' = w := by
 by_cases h1 : 0 < ag
 ·have h2 : ¬ ag = 0 := by omega
  go_enter func143, ntmps143
  go_wp2
  go_ret
  exact ⟨by simp [h1], rfl⟩
 ·by_cases h2 : ag = 0
  ·subst h2
   go_enter func143, ntmps143
   go_wp2
   go_ret
   exact ⟨by simp, rfl⟩
  ·go_enter func143, ntmps143
   go_wp2
   go_ret
   exact ⟨by simp [h1, h2], rfl⟩
theorem qmA {n o : Nat} (ho : 1 ≤ o) : qfk n o = n / 2 ^ o + (if (decide (0 < agS n o) || (decide (agS n o = 0) && decide (n / 2 ^ o % 2 = 1))) = true then 1 else 0) := by
 unfold qfk
 congr 1
 have h1 : 2 ^ o = 2 * 2 ^ (o - 1) := by
  obtain ⟨k, rfl⟩ : ∃ k, o = k + 1 := ⟨o - 1, by omega⟩
  rw [Nat.pow_succ, Nat.add_sub_cancel]; omega
 have e : (2 ^ o < 2 * (n % 2 ^ o) ∨ 2 ^ o = 2 * (n % 2 ^ o) ∧ n / 2 ^ o % 2 = 1) ↔ ((decide (0 < agS n o) || (decide (agS n o = 0) && decide (n / 2 ^ o % 2 = 1))) = true) := by
  rw [Bool.or_eq_true, Bool.and_eq_true, decide_eq_true_eq, decide_eq_true_eq, decide_eq_true_eq]
  unfold agS
  generalize n % 2 ^ o = r at *
  generalize n / 2 ^ o = d at *
  generalize 2 ^ (o - 1) = h at *
  rw [h1]
  unfold qdA
  by_cases a1 : (r : Int) < h
  ·rw [if_pos a1]; constructor
   ·rintro (h | ⟨h, -⟩) <;> omega
   ·rintro (h | ⟨h, -⟩) <;> omega
  ·rw [if_neg a1]
   by_cases a2 : (h : Int) < r
   ·rw [if_pos a2]; constructor
    ·intro; exact .inl (by omega)
    ·intro; exact .inl (by omega)
   ·rw [if_neg a2]; constructor
    ·rintro (h | ⟨h, h'⟩)
     ·omega
     ·exact .inr ⟨rfl, h'⟩
    ·rintro (h | ⟨h, h'⟩)
     ·omega
     ·exact .inr ⟨by omega, h'⟩
 by_cases h2 : (2 ^ o < 2 * (n % 2 ^ o) ∨ 2 ^ o = 2 * (n % 2 ^ o) ∧ n / 2 ^ o % 2 = 1)
 ·rw [if_pos h2, if_pos (e.1 h2)]
 ·rw [if_neg h2, if_neg (fun h => h2 (e.2 h))]
theorem qla (w : World) : Calls prog 108 #[.agg #[.bool false, .string ⟨#[]⟩, .int .i64 0]] w fun en w' => en = .returned (.tuple #[.int .i64 0, .bool false]) ∧ Kept w w' := by
 have SX : Hid (∀ W, Calls prog 20 #[.agg #[.bool false, .string ⟨#[]⟩, .int .i64 0]] W fun e w' => e = .returned (.int .i64 0) ∧ Kept W w') := fun W => qcP zD W qdF
 go_enter func108, ntmps108
 go_wp2_with (go_at_call 20; (with_reducible refine (SX.out _).mono ?_); rintro e w4 ⟨rfl, hk4⟩)
 go_ret2
 exact ⟨rfl, (Kept.new (Below.refl _ _) _).trans' hk4⟩
end
section
set_option maxRecDepth 100000
attribute [local go_sem] run_float_arith qaI qaJ qau qah qae
theorem qi6 (neg : Bool) (r : Nat) : Ieee.double.word neg r = if neg then 9223372036854775808 + r else r := by
 unfold Ieee.Format.word
 rw [show Ieee.double.signWeight = 9223372036854775808 from by decide]
theorem qnq {m : Nat} (hm : m < 18446744073709551616) : bits BinOp.and .u64 (m : Int) 1 = ((m % 2 : Nat) : Int) := by
 have := qd9 (x := m) (y := 1) hm (by omega)
 rw [show ((1 : Nat) : Int) = 1 from rfl] at this
 rw [this, Nat.and_one_is_mod]
theorem qiW (m : Nat) (q : Int) : qaG m q < 9223372036854775808 := by
 have : qaG m q ≤ qaP := Nat.min_le_right ..
 unfold qaP at this; omega
set_option maxHeartbeats 6400000 in
theorem qj6 (d : DyD) (w : World) (hd : qad d = true) :
  Calls prog 142 #[.agg #[.bool d.neg, .string d.n, .int .i64 d.e], .func (.func 143) #[] #[]] w fun en w' => en = .returned (.tuple #[.float .f64 (qaQ d), .int .i64 0]) ∧ Kept w w' := by
 have CK : Hid (∀ W, Calls prog 19 #[.agg #[.bool d.neg, .string d.n, .int .i64 d.e]] W fun e w' => e = .returned (.int .i64 0) ∧ Kept W w') := fun W => by
  have := qbq d W (qda hd)
  unfold qcK at this
  rw [hd] at this
  exact this
 have LDX := qh qeg
 by_cases h0 : d.num = 0
 ·obtain rfl := (qag hd).2.1 h0
  have TP := qh qla
  rw [show qaQ zD = 0 by decide +kernel]
  clear h0 hd
  show Calls prog 142 #[.agg #[.bool false, .string ⟨#[]⟩, .int .i64 0], .func (.func 143) #[] #[]] w fun en w' => en = .returned (.tuple #[.float .f64 0, .int .i64 0]) ∧ Kept w w'
  replace CK : Hid (∀ W, Calls prog 19 #[.agg #[.bool false, .string ⟨#[]⟩, .int .i64 0]] W fun e w' => e = .returned (.int .i64 0) ∧ Kept W w') := CK
  go_enter func142, ntmps142
  go_upto_region 1 with fail
  obtain ⟨b, w1, hw, hb, B0, K1, HB⟩ := qa4 w (LC0 false ⟨#[]⟩ 0) 24
  rw [← hw, ← hb]; clear hw hb
  obtain ⟨c0, c1, c2⟩ := B0.out.c3
  go_wp2_with (first
   | (go_at_call 19; (with_reducible refine (CK.out _).mono ?_); rintro e w3 ⟨rfl, hk3⟩; have K3 := qh hk3; obtain ⟨c0, c1, c2⟩ := (B0.out.kept K3.out).c3)
   | (go_at_call 108; (with_reducible refine (TP.out _).mono ?_); rintro e w4 ⟨rfl, hk4⟩; have K4 := qh (K3.out.trans' hk4)))
  go_ret2
  exact ⟨rfl, K1.out.trans' K4.out⟩
 ·obtain ⟨p, hp⟩ := qdh d.num.natAbs
  have TP := qh (fun W => qgX d p W hd h0 hp)
  have HR := qh (qgO h0 hp)
  have hxe := (qag hd).2.2.2
  have hpp : p ≤ 8 * 16384 := qcU hp (qag hd).1
  obtain ⟨T, hT⟩ : ∃ T : Int, T = (p : Int) - 1 + d.e := ⟨_, rfl⟩
  have b1 : bits BinOp.and .u64 9007199254740991 1 = 1 := by decide
  by_cases ht : 1024 ≤ T
  ·have HR := qh (qh2 h0 hp (by omega))
   have hT' : ¬ T < 1024 := by omega
   have LD : Hid (∀ W, Calls prog 178 #[.float .f64 (Ieee.double.nearest false 9007199254740992 0), .int .i64 971] W fun e w' => e = .returned (.float .f64 qaP) ∧ w' = W) := fun W => by
    have := qeg 9007199254740992 971 W (by omega) (by omega) (by omega) (.inl (by omega))
    rwa [show qaG 9007199254740992 971 = qaP by decide +kernel] at this
   have CS := qh (qdT qaP (by decide))
   have N1 := qh (qfQ 1 true)
   have hF : floatOfInt .f64 9007199254740992 = Ieee.double.nearest false 9007199254740992 0 := qeq 9007199254740992
   generalize Ieee.double.nearest false 9007199254740992 0 = X at *
   rw [qi6] at HR
   generalize qaP = IR at *
   rw [← hT] at TP
   generalize qaQ d = R at *
   obtain ⟨neg, sx, x⟩ := d
   simp only at CK TP HR ⊢
   clear LDX h0 hp hxe hpp hT hd ht
   cases neg with
   | false =>
    have HR2 := qh (show R = IR by rw [HR.out]; simp)
    clear HR
    go_enter func142, ntmps142
    go_upto_region 1 with fail
    obtain ⟨b, w1, hw, hb, B0, K1, HB⟩ := qa4 w (LC0 false sx x) 24
    rw [← hw, ← hb]; clear hw hb
    obtain ⟨c0, c1, c2⟩ := B0.out.c3
    go_wp2_with (first
     | (go_at_call 19; (with_reducible refine (CK.out _).mono ?_); rintro e w3 ⟨rfl, hk3⟩; have K3 := qh hk3; obtain ⟨c0, c1, c2⟩ := (B0.out.kept K3.out).c3)
     | (go_at_call 108; (with_reducible refine (TP.out _).mono ?_); rintro e w4 ⟨rfl, hk4⟩; have K4 := qh (K3.out.trans' hk4); obtain ⟨c0, c1, c2⟩ := (B0.out.kept K4.out).c3)
     | (go_at_call 177; (with_reducible refine (CT.out _).mono ?_); rintro e w5 ⟨rfl, hk5⟩; have K5 := qh (K4.out.trans' hk5); obtain ⟨c0, c1, c2⟩ := (B0.out.kept K5.out).c3)
     | (go_at_call 143; (with_reducible refine (N1.out _).mono ?_); rintro e w6 ⟨rfl, hw⟩; replace hw := hw.symm; subst hw)
     | (go_at_call 178; (with_reducible refine (LD.out _).mono ?_); rintro e w6 ⟨rfl, hw⟩; replace hw := hw.symm; subst hw)
     | (go_at_call 179; (with_reducible refine (CS.out _).mono ?_); rintro e w6 ⟨rfl, hw⟩; replace hw := hw.symm; subst hw))
    go_ret2
    exact ⟨by rw [HR2.out]; rfl, K1.out.trans' K4.out⟩
   | true =>
    have HR2 := qh (show R = 9223372036854775808 + IR by rw [HR.out]; simp)
    clear HR
    go_enter func142, ntmps142
    go_upto_region 1 with fail
    obtain ⟨b, w1, hw, hb, B0, K1, HB⟩ := qa4 w (LC0 true sx x) 24
    rw [← hw, ← hb]; clear hw hb
    obtain ⟨c0, c1, c2⟩ := B0.out.c3
    go_wp2_with (first
     | (go_at_call 19; (with_reducible refine (CK.out _).mono ?_); rintro e w3 ⟨rfl, hk3⟩; have K3 := qh hk3; obtain ⟨c0, c1, c2⟩ := (B0.out.kept K3.out).c3)
     | (go_at_call 108; (with_reducible refine (TP.out _).mono ?_); rintro e w4 ⟨rfl, hk4⟩; have K4 := qh (K3.out.trans' hk4); obtain ⟨c0, c1, c2⟩ := (B0.out.kept K4.out).c3)
     | (go_at_call 177; (with_reducible refine (CT.out _).mono ?_); rintro e w5 ⟨rfl, hk5⟩; have K5 := qh (K4.out.trans' hk5); obtain ⟨c0, c1, c2⟩ := (B0.out.kept K5.out).c3)
     | (go_at_call 143; (with_reducible refine (N1.out _).mono ?_); rintro e w6 ⟨rfl, hw⟩; replace hw := hw.symm; subst hw)
     | (go_at_call 178; (with_reducible refine (LD.out _).mono ?_); rintro e w6 ⟨rfl, hw⟩; replace hw := hw.symm; subst hw)
     | (go_at_call 179; (with_reducible refine (CS.out _).mono ?_); rintro e w6 ⟨rfl, hw⟩; replace hw := hw.symm; subst hw))
    go_ret2
    exact ⟨by rw [HR2.out]; rfl, K1.out.trans' K4.out⟩
  ·have hT' : T < 1024 := by omega
   rw [qi6] at HR
   obtain ⟨q, hq⟩ : ∃ q, q = qan p d.e := ⟨_, rfl⟩
   have hql : q = max ((p : Int) - 1 + d.e - 52) (-1074) := hq
   have hk53 := qjt d.e hp
   have hkg : 4503599627370496 ≤ qbc d.num.natAbs d.e (qan p d.e) ∨ q = -1074 := by
    by_cases h : -1074 < qan p d.e
    ·exact .inl (qi7 d.e (by omega) hp h)
    ·right; omega
   have CTE := qh (fun W => qkc d p W hd h0 hp (by omega))
   have CTR := qh (fun W => qmx d p W hd h0 hp (by omega))
   rw [← hq] at hk53 hkg
   have HRP : Hid (qaQ d = if d.neg = true then 9223372036854775808 + qaG (qbc d.num.natAbs d.e q) q else qaG (qbc d.num.natAbs d.e q) q) := by
    rw [hq]; exact HR.out
   rw [← hq, ← hT] at CTE CTR
   rw [← hT] at TP
   have q0 : -1074 ≤ q := by omega
   have q1 : q ≤ 971 := by omega
   by_cases hx : q ≤ d.e
   ·have CT := qh (fun W => CTE.out W hx)
    obtain ⟨M, hM⟩ : ∃ M, M = qbc d.num.natAbs d.e q := ⟨_, rfl⟩
    rw [← hM] at CT HRP hk53 hkg
    have LD := qh (fun W => qeg M q W hk53 q0 q1 hkg)
    have CS := qh (qdT (qaG M q) (qiW M q))
    have hF : floatOfInt .f64 (M : Int) = Ieee.double.nearest false M 0 := qeq M
    generalize Ieee.double.nearest false M 0 = X at *
    generalize qaG M q = PK at *
    replace HR := HRP
    generalize qaQ d = R at *
    have N1 := qh qfQ
    obtain ⟨neg, sx, x⟩ := d
    simp only at CK TP CT HR ⊢
    clear LDX HRP CTE CTR h0 hp hxe hpp hT hd ht hq hql hM hkg hx b1
    cases neg with
    | false =>
     have HR2 := qh (show R = PK by rw [HR.out]; simp)
     clear HR
     go_enter func142, ntmps142
     go_upto_region 1 with fail
     obtain ⟨b, w1, hw, hb, B0, K1, HB⟩ := qa4 w (LC0 false sx x) 24
     rw [← hw, ← hb]; clear hw hb
     obtain ⟨c0, c1, c2⟩ := B0.out.c3
     go_wp2_with (first
      | (go_at_call 19; (with_reducible refine (CK.out _).mono ?_); rintro e w3 ⟨rfl, hk3⟩; have K3 := qh hk3; obtain ⟨c0, c1, c2⟩ := (B0.out.kept K3.out).c3)
      | (go_at_call 108; (with_reducible refine (TP.out _).mono ?_); rintro e w4 ⟨rfl, hk4⟩; have K4 := qh (K3.out.trans' hk4); obtain ⟨c0, c1, c2⟩ := (B0.out.kept K4.out).c3)
      | (go_at_call 177; (with_reducible refine (CT.out _).mono ?_); rintro e w5 ⟨rfl, hk5⟩; have K5 := qh (K4.out.trans' hk5); obtain ⟨c0, c1, c2⟩ := (B0.out.kept K5.out).c3)
      | (go_at_call 143; (with_reducible refine (N1.out _).mono ?_); rintro e w6 ⟨rfl, hw⟩; replace hw := hw.symm; subst hw)
      | (go_at_call 178; (with_reducible refine (LD.out _).mono ?_); rintro e w6 ⟨rfl, hw⟩; replace hw := hw.symm; subst hw)
      | (go_at_call 179; (with_reducible refine (CS.out _).mono ?_); rintro e w6 ⟨rfl, hw⟩; replace hw := hw.symm; subst hw))
     go_ret2
     exact ⟨by rw [HR2.out]; rfl, K1.out.trans' K5.out⟩
    | true =>
     have HR2 := qh (show R = 9223372036854775808 + PK by rw [HR.out]; simp)
     clear HR
     go_enter func142, ntmps142
     go_upto_region 1 with fail
     obtain ⟨b, w1, hw, hb, B0, K1, HB⟩ := qa4 w (LC0 true sx x) 24
     rw [← hw, ← hb]; clear hw hb
     obtain ⟨c0, c1, c2⟩ := B0.out.c3
     go_wp2_with (first
      | (go_at_call 19; (with_reducible refine (CK.out _).mono ?_); rintro e w3 ⟨rfl, hk3⟩; have K3 := qh hk3; obtain ⟨c0, c1, c2⟩ := (B0.out.kept K3.out).c3)
      | (go_at_call 108; (with_reducible refine (TP.out _).mono ?_); rintro e w4 ⟨rfl, hk4⟩; have K4 := qh (K3.out.trans' hk4); obtain ⟨c0, c1, c2⟩ := (B0.out.kept K4.out).c3)
      | (go_at_call 177; (with_reducible refine (CT.out _).mono ?_); rintro e w5 ⟨rfl, hk5⟩; have K5 := qh (K4.out.trans' hk5); obtain ⟨c0, c1, c2⟩ := (B0.out.kept K5.out).c3)
      | (go_at_call 143; (with_reducible refine (N1.out _).mono ?_); rintro e w6 ⟨rfl, hw⟩; replace hw := hw.symm; subst hw)
      | (go_at_call 178; (with_reducible refine (LD.out _).mono ?_); rintro e w6 ⟨rfl, hw⟩; replace hw := hw.symm; subst hw)
      | (go_at_call 179; (with_reducible refine (CS.out _).mono ?_); rintro e w6 ⟨rfl, hw⟩; replace hw := hw.symm; subst hw))
     go_ret2
     exact ⟨by rw [HR2.out]; rfl, K1.out.trans' K5.out⟩
   ·have CT := qh (fun W => CTR.out W hx)
    obtain ⟨o, ho⟩ : ∃ o, o = (q - d.e).toNat := ⟨_, rfl⟩
    have ho1 : 1 ≤ o := by omega
    rw [← ho] at CT
    have hkk : qbc d.num.natAbs d.e q = qfk d.num.natAbs o := by unfold qbc; rw [if_neg hx, ← ho]
    rw [hkk] at HRP hk53 hkg
    rw [qmA ho1] at HRP hk53 hkg
    have N1 := qh (qfQ (agS d.num.natAbs o) (decide (d.num.natAbs / 2 ^ o % 2 = 1)))
    generalize agS d.num.natAbs o = ag at *
    obtain ⟨M, hM⟩ : ∃ M, M = d.num.natAbs / 2 ^ o := ⟨_, rfl⟩
    rw [← hM] at CT HRP hk53 hkg N1
    have hMl : M ≤ 9007199254740992 := Nat.le_trans (Nat.le_add_right _ _) hk53
    have b2 := qnq (m := M) (by omega)
    have b3 : ((((M % 2 : Nat) : Int)) == 1) = decide (M % 2 = 1) := by
     rw [Bool.eq_iff_iff, beq_iff_eq, decide_eq_true_eq]; omega
    have b4 : ((M : Int) % 2 == 1) = decide (M % 2 = 1) := by
     rw [Bool.eq_iff_iff, beq_iff_eq, decide_eq_true_eq]; omega
    generalize decide (M % 2 = 1) = odd at *
    obtain ⟨on, hon⟩ : ∃ on, on = (decide (0 < ag) || (decide (ag = 0) && odd)) := ⟨_, rfl⟩
    rw [← hon] at HRP hk53 hkg N1
    obtain ⟨M9, hM9⟩ : ∃ M9, M9 = M + (if on = true then 1 else 0) := ⟨_, rfl⟩
    rw [← hM9] at HRP hk53 hkg
    have LD := qh (fun W => qeg M9 q W hk53 q0 q1 hkg)
    have CS := qh (qdT (qaG M9 q) (qiW M9 q))
    have hF : floatOfInt .f64 (M9 : Int) = Ieee.double.nearest false M9 0 := qeq M9
    generalize Ieee.double.nearest false M9 0 = X at *
    generalize qaG M9 q = PK at *
    replace HR := HRP
    generalize qaQ d = R at *
    obtain ⟨neg, sx, x⟩ := d
    simp only at CK TP CT HR ⊢
    clear LDX HRP CTE CTR h0 hp hxe hpp hT hd ht hq hql hM hkg hx b1 ho ho1 hkk hon
    cases on with
    | true =>
     have hF2 : floatOfInt .f64 ((M : Int) + 1) = X := by rw [← hF, hM9]; rfl
     clear hM9 hF hk53
     cases neg with
     | false =>
      have HR2 := qh (show R = PK by rw [HR.out]; simp)
      clear HR
      go_enter func142, ntmps142
      go_upto_region 1 with fail
      obtain ⟨b, w1, hw, hb, B0, K1, HB⟩ := qa4 w (LC0 false sx x) 24
      rw [← hw, ← hb]; clear hw hb
      obtain ⟨c0, c1, c2⟩ := B0.out.c3
      go_wp2_with (first
       | (go_at_call 19; (with_reducible refine (CK.out _).mono ?_); rintro e w3 ⟨rfl, hk3⟩; have K3 := qh hk3; obtain ⟨c0, c1, c2⟩ := (B0.out.kept K3.out).c3)
       | (go_at_call 108; (with_reducible refine (TP.out _).mono ?_); rintro e w4 ⟨rfl, hk4⟩; have K4 := qh (K3.out.trans' hk4); obtain ⟨c0, c1, c2⟩ := (B0.out.kept K4.out).c3)
       | (go_at_call 177; (with_reducible refine (CT.out _).mono ?_); rintro e w5 ⟨rfl, hk5⟩; have K5 := qh (K4.out.trans' hk5); obtain ⟨c0, c1, c2⟩ := (B0.out.kept K5.out).c3)
       | (go_at_call 143; (with_reducible refine (N1.out _).mono ?_); rintro e w6 ⟨rfl, hw⟩; replace hw := hw.symm; subst hw)
       | (go_at_call 178; (with_reducible refine (LD.out _).mono ?_); rintro e w6 ⟨rfl, hw⟩; replace hw := hw.symm; subst hw)
       | (go_at_call 179; (with_reducible refine (CS.out _).mono ?_); rintro e w6 ⟨rfl, hw⟩; replace hw := hw.symm; subst hw))
      go_ret2
      exact ⟨by rw [HR2.out]; rfl, K1.out.trans' K5.out⟩
     | true =>
      have HR2 := qh (show R = 9223372036854775808 + PK by rw [HR.out]; simp)
      clear HR
      go_enter func142, ntmps142
      go_upto_region 1 with fail
      obtain ⟨b, w1, hw, hb, B0, K1, HB⟩ := qa4 w (LC0 true sx x) 24
      rw [← hw, ← hb]; clear hw hb
      obtain ⟨c0, c1, c2⟩ := B0.out.c3
      go_wp2_with (first
       | (go_at_call 19; (with_reducible refine (CK.out _).mono ?_); rintro e w3 ⟨rfl, hk3⟩; have K3 := qh hk3; obtain ⟨c0, c1, c2⟩ := (B0.out.kept K3.out).c3)
       | (go_at_call 108; (with_reducible refine (TP.out _).mono ?_); rintro e w4 ⟨rfl, hk4⟩; have K4 := qh (K3.out.trans' hk4); obtain ⟨c0, c1, c2⟩ := (B0.out.kept K4.out).c3)
       | (go_at_call 177; (with_reducible refine (CT.out _).mono ?_); rintro e w5 ⟨rfl, hk5⟩; have K5 := qh (K4.out.trans' hk5); obtain ⟨c0, c1, c2⟩ := (B0.out.kept K5.out).c3)
       | (go_at_call 143; (with_reducible refine (N1.out _).mono ?_); rintro e w6 ⟨rfl, hw⟩; replace hw := hw.symm; subst hw)
       | (go_at_call 178; (with_reducible refine (LD.out _).mono ?_); rintro e w6 ⟨rfl, hw⟩; replace hw := hw.symm; subst hw)
       | (go_at_call 179; (with_reducible refine (CS.out _).mono ?_); rintro e w6 ⟨rfl, hw⟩; replace hw := hw.symm; subst hw))
      go_ret2
      exact ⟨by rw [HR2.out]; rfl, K1.out.trans' K5.out⟩
    | false =>
     have hF2 : floatOfInt .f64 (M : Int) = X := by rw [← hF, hM9]; rfl
     clear hM9 hF hk53
     cases neg with
     | false =>
      have HR2 := qh (show R = PK by rw [HR.out]; simp)
      clear HR
      go_enter func142, ntmps142
      go_upto_region 1 with fail
      obtain ⟨b, w1, hw, hb, B0, K1, HB⟩ := qa4 w (LC0 false sx x) 24
      rw [← hw, ← hb]; clear hw hb
      obtain ⟨c0, c1, c2⟩ := B0.out.c3
      go_wp2_with (first
       | (go_at_call 19; (with_reducible refine (CK.out _).mono ?_); rintro e w3 ⟨rfl, hk3⟩; have K3 := qh hk3; obtain ⟨c0, c1, c2⟩ := (B0.out.kept K3.out).c3)
       | (go_at_call 108; (with_reducible refine (TP.out _).mono ?_); rintro e w4 ⟨rfl, hk4⟩; have K4 := qh (K3.out.trans' hk4); obtain ⟨c0, c1, c2⟩ := (B0.out.kept K4.out).c3)
       | (go_at_call 177; (with_reducible refine (CT.out _).mono ?_); rintro e w5 ⟨rfl, hk5⟩; have K5 := qh (K4.out.trans' hk5); obtain ⟨c0, c1, c2⟩ := (B0.out.kept K5.out).c3)
       | (go_at_call 143; (with_reducible refine (N1.out _).mono ?_); rintro e w6 ⟨rfl, hw⟩; replace hw := hw.symm; subst hw)
       | (go_at_call 178; (with_reducible refine (LD.out _).mono ?_); rintro e w6 ⟨rfl, hw⟩; replace hw := hw.symm; subst hw)
       | (go_at_call 179; (with_reducible refine (CS.out _).mono ?_); rintro e w6 ⟨rfl, hw⟩; replace hw := hw.symm; subst hw))
      go_ret2
      exact ⟨by rw [HR2.out]; rfl, K1.out.trans' K5.out⟩
     | true =>
      have HR2 := qh (show R = 9223372036854775808 + PK by rw [HR.out]; simp)
      clear HR
      go_enter func142, ntmps142
      go_upto_region 1 with fail
      obtain ⟨b, w1, hw, hb, B0, K1, HB⟩ := qa4 w (LC0 true sx x) 24
      rw [← hw, ← hb]; clear hw hb
      obtain ⟨c0, c1, c2⟩ := B0.out.c3
      go_wp2_with (first
       | (go_at_call 19; (with_reducible refine (CK.out _).mono ?_); rintro e w3 ⟨rfl, hk3⟩; have K3 := qh hk3; obtain ⟨c0, c1, c2⟩ := (B0.out.kept K3.out).c3)
       | (go_at_call 108; (with_reducible refine (TP.out _).mono ?_); rintro e w4 ⟨rfl, hk4⟩; have K4 := qh (K3.out.trans' hk4); obtain ⟨c0, c1, c2⟩ := (B0.out.kept K4.out).c3)
       | (go_at_call 177; (with_reducible refine (CT.out _).mono ?_); rintro e w5 ⟨rfl, hk5⟩; have K5 := qh (K4.out.trans' hk5); obtain ⟨c0, c1, c2⟩ := (B0.out.kept K5.out).c3)
       | (go_at_call 143; (with_reducible refine (N1.out _).mono ?_); rintro e w6 ⟨rfl, hw⟩; replace hw := hw.symm; subst hw)
       | (go_at_call 178; (with_reducible refine (LD.out _).mono ?_); rintro e w6 ⟨rfl, hw⟩; replace hw := hw.symm; subst hw)
       | (go_at_call 179; (with_reducible refine (CS.out _).mono ?_); rintro e w6 ⟨rfl, hw⟩; replace hw := hw.symm; subst hw))
      go_ret2
      exact ⟨by rw [HR2.out]; rfl, K1.out.trans' K5.out⟩
theorem qhO (d : DyD) (w : World) (hd : qad d = true) :
  Calls prog 100 #[.agg #[.bool d.neg, .string d.n, .int .i64 d.e]] w fun en w' => en = .returned (.tuple #[.float .f64 (qaQ d), .int .i64 0]) ∧ Kept w w' := by
 have RD := qh (fun W => qj6 d W hd)
 generalize qaQ d = R at *
 obtain ⟨neg, sx, x⟩ := d
 simp only at RD ⊢
 clear hd
 go_enter func100, ntmps100
 go_upto_region 1 with fail
 obtain ⟨b, w1, hw, hb, B0, K1, HB⟩ := qa4 w (LC0 neg sx x) 24
 rw [← hw, ← hb]; clear hw hb
 obtain ⟨c0, c1, c2⟩ := B0.out.c3
 go_wp2_with (go_at_call 142; (with_reducible refine (RD.out _).mono ?_); rintro e w3 ⟨rfl, hk3⟩)
 go_ret2
 exact ⟨rfl, K1.out.trans' hk3⟩
end
section
set_option maxHeartbeats 1600000
set_option maxRecDepth 100000
attribute [local go_sem] run_float_arith qaI qaJ qau qah qae
theorem qmo (x : GsD) (w : World) (hx : gsB x = true) (hT : T32 w) :
  Calls prog 68 #[.agg #[.bool x.re.neg, .string x.re.n, .int .i64 x.re.e, .bool x.im.neg, .string x.im.n, .int .i64 x.im.e]] w fun en w' => en = .returned (qaf (qbX x)) ∧ Kept w w' := by
 have DOT : Hid (∀ W, Kept w W → Calls prog 105 #[.agg #[.bool x.re.neg, .string x.re.n, .int .i64 x.re.e, .bool x.im.neg, .string x.im.n, .int .i64 x.im.e], .agg #[.bool x.re.neg, .string x.re.n, .int .i64 x.re.e, .bool x.im.neg, .string x.im.n, .int .i64 x.im.e]] W fun en w' => en = .returned (qaf (qbX x)) ∧ Kept W w') := fun W h => qmR x x W hx hx (hT.kept h)
 generalize qbX x = R at *
 obtain ⟨⟨a0, a1, a2⟩, ⟨a3, a4, a5⟩⟩ := x
 simp only at DOT ⊢
 clear hx hT
 go_enter func68, ntmps68
 go_upto_region 1 with fail
 obtain ⟨b, w1, hw, hb, B0, B1, K1, HB⟩ := qa7 w (LC1 a0 a1 a2 a3 a4 a5) 28 (LC0 false ⟨#[]⟩ 0) 24
 rw [← hw, ← hb]; clear hw hb
 obtain ⟨c0, c1, c2, c3, c4, c5⟩ := B0.out.c6
 go_wp2_with (go_at_call 105; (with_reducible refine (DOT.out _ K1.out).mono ?_); rintro e w3 ⟨rfl, hk3⟩; obtain ⟨d0, d1, d2⟩ := (B1.out.kept hk3).c3; obtain ⟨f0, f1, f2⟩ := (B1.out.kept hk3).f3)
 exact bodyPost_ret (v := qaf R) (by simp [results, results68, go_sem, d0, d1, d2, qaf]) rfl ⟨rfl, (K1.out.trans' hk3).qaL (by have := HB.out; omega) _ _ _⟩
def qbE (x y : Nat) : GsD × Int := if (qa9 x).2 = 0 ∧ (qa9 y).2 = 0 then (⟨(qa9 x).1, (qa9 y).1⟩, 0) else (zG, 5)
theorem qio (x y : Nat) (w : World) (hx : x < 18446744073709551616) (hy : y < 18446744073709551616) (hT : T32 w) :
  Calls prog 66 #[.complex .f64 x y] w fun en w' => en = .returned (qaC (qbE x y)) ∧ Kept w w' := by
 have F1 : Hid (∀ W, Kept w W → Calls prog 101 #[.float .f64 x] W fun en w' => en = .returned (qaf (qa9 x)) ∧ Kept W w') := fun W h => qeY x W hx (hT.kept h)
 have F2 : Hid (∀ W, Kept w W → Calls prog 101 #[.float .f64 y] W fun en w' => en = .returned (qaf (qa9 y)) ∧ Kept W w') := fun W h => qeY y W hy (hT.kept h)
 unfold qbE
 generalize qa9 x = R at *
 generalize qa9 y = Q at *
 obtain ⟨⟨r0, r1, r2⟩, r3⟩ := R
 obtain ⟨⟨q0, q1, q2⟩, q3⟩ := Q
 simp only at F1 F2 ⊢
 clear hx hy hT
 have go : ∀ (v : GsD × Int), v = (if r3 = 0 ∧ q3 = 0 then ((⟨⟨r0, r1, r2⟩, ⟨q0, q1, q2⟩⟩, 0) : GsD × Int) else (zG, 5)) → Calls prog 66 #[.complex .f64 x y] w fun en w' => en = .returned (qaC v) ∧ Kept w w' := by
  intro v hv
  go_enter func66, ntmps66
  go_upto_region 1 with fail
  obtain ⟨b, w1, hw, hb, B0, K1, HB⟩ := qa4 w ZL0 28
  rw [← hw, ← hb]; clear hw hb
  go_upto_region 2 with (go_at_call 101; (with_reducible refine (F1.out _ K1.out).mono ?_); rintro e w3 ⟨rfl, hk3⟩)
  have K4 := qh (Kept.new hk3 (.cells (LC0 r0 r1 r2).toArray 24))
  have B1 := qh (Bx.new w3 (LC0 r0 r1 r2) 24 w3.heap.size rfl)
  obtain ⟨g, hg⟩ : ∃ g, g = w3.heap.size := ⟨_, rfl⟩
  rw [← hg] at B1 ⊢
  clear hg hk3
  generalize (w3.alloc (.cells (LC0 r0 r1 r2).toArray 24)) = w4 at *
  go_upto_region 3 with (go_at_call 101; (with_reducible refine (F2.out _ (K1.out.trans' K4.out)).mono ?_); rintro e w5 ⟨rfl, hk5⟩)
  have K6 := qh (Kept.new (K4.out.trans' hk5) (.cells (LC0 q0 q1 q2).toArray 24))
  have B2 := qh (Bx.new w5 (LC0 q0 q1 q2) 24 w5.heap.size rfl)
  have B3 := qh ((B1.out.kept hk5).kept (Kept.new (Below.refl _ _) (.cells (LC0 q0 q1 q2).toArray 24)))
  obtain ⟨g2, hg2⟩ : ∃ g, g = w5.heap.size := ⟨_, rfl⟩
  rw [← hg2] at B2 ⊢
  clear hg2 hk5 K4 B1 F1 F2
  generalize (w5.alloc (.cells (LC0 q0 q1 q2).toArray 24)) = w6 at *
  obtain ⟨c0, c1, c2⟩ := B3.out.c3
  obtain ⟨d0, d1, d2⟩ := B2.out.c3
  obtain ⟨e0, e1, e2, e3, e4, e5⟩ := (B0.out.kept K6.out).c6
  obtain ⟨f0, f1, f2, f3, f4, f5⟩ := (B0.out.kept K6.out).f6
  have HV := qh hv
  clear hv
  by_cases h1 : r3 = 0
  ·by_cases h2 : q3 = 0
   ·subst h1 h2
    go_wp2_with fail
    exact bodyPost_ret (v := qaC (⟨⟨r0, r1, r2⟩, ⟨q0, q1, q2⟩⟩, 0)) (by simp [results, results66, go_sem, e0, e1, e2, e3, e4, e5, qaC]) rfl ⟨by rw [HV.out]; rfl, (K1.out.trans' K6.out).qdk HB.out _ _ _ _ _ _⟩
   ·subst h1
    go_wp2_with fail
    exact bodyPost_ret (v := qaC (zG, 5)) (by simp [results, results66, go_sem, e0, e1, e2, e3, e4, e5, qaC, zG, zD]) rfl ⟨by rw [HV.out, if_neg (fun h => h2 h.2)], (K1.out.trans' K6.out).qdk HB.out _ _ _ _ _ _⟩
  ·go_wp2_with fail
   exact bodyPost_ret (v := qaC (zG, 5)) (by simp [results, results66, go_sem, e0, e1, e2, e3, e4, e5, qaC, zG, zD]) rfl ⟨by rw [HV.out, if_neg (fun h => h1 h.1)], (K1.out.trans' K6.out).qdk HB.out _ _ _ _ _ _⟩
 exact go _ rfl
theorem qll (x : GsD) (w : World) (hx : gsB x = true) :
  Calls prog 65 #[.agg #[.bool x.re.neg, .string x.re.n, .int .i64 x.re.e, .bool x.im.neg, .string x.im.n, .int .i64 x.im.e]] w fun en w' => en = .returned (.tuple #[.complex .f64 (qaQ x.re) (qaQ x.im), .int .i64 0]) ∧ Kept w w' := by
 have CK := qh (qcs x hx)
 have N1 := qh (fun W => qhO x.re W (qam.1 hx).1)
 have N2 := qh (fun W => qhO x.im W (qam.1 hx).2)
 generalize qaQ x.re = R at *
 generalize qaQ x.im = Q at *
 obtain ⟨⟨a0, a1, a2⟩, ⟨a3, a4, a5⟩⟩ := x
 simp only at CK N1 N2 ⊢
 clear hx
 go_enter func65, ntmps65
 go_upto_region 1 with fail
 obtain ⟨b, w1, hw, hb, B0, K1, HB⟩ := qa4 w (LC1 a0 a1 a2 a3 a4 a5) 28
 rw [← hw, ← hb]; clear hw hb
 obtain ⟨c0, c1, c2, c3, c4, c5⟩ := B0.out.c6
 go_wp2_with (first
  | (go_at_call 18; (with_reducible refine (CK.out _).mono ?_); rintro e w3 ⟨rfl, hk3⟩; have K3 := qh hk3; obtain ⟨c0, c1, c2, c3, c4, c5⟩ := (B0.out.kept K3.out).c6)
  | (go_at_call 100; (with_reducible refine (N1.out _).mono ?_); rintro e w4 ⟨rfl, hk4⟩; have K4 := qh (K3.out.trans' hk4); obtain ⟨c0, c1, c2, c3, c4, c5⟩ := (B0.out.kept K4.out).c6)
  | (go_at_call 100; (with_reducible refine (N2.out _).mono ?_); rintro e w5 ⟨rfl, hk5⟩; have K5 := qh (K4.out.trans' hk5)))
 go_ret2
 exact ⟨rfl, K1.out.trans' K5.out⟩
end
def qo4 (k : Nat) : Int := 2 ^ k
theorem powZ_eq (k : Nat) : qo4 k = 2 ^ k := rfl
theorem powZ_pos (k : Nat) : 0 < qo4 k := Int.pow_pos (by omega)
theorem powZ_add (a b : Nat) : qo4 (a + b) = qo4 a * qo4 b := Int.pow_add ..
def WW : Int := qo4 1048576
theorem WW_pos : 0 < WW := powZ_pos _
def sv (d : DyD) : Int := d.num * qo4 (d.e + 1048576).toNat
theorem fitS_sv {z e : Int} (h : (qbh z e).2 = 0) (m : Nat) (hm : 0 ≤ e + 1048576 + m) : sv (qbh z e).1 * qo4 m = z * qo4 (e + 1048576 + m).toNat := by
 by_cases h0 : z = 0
 ·subst h0
  rw [qcR]
  show (0 : Int) * _ * _ = _
  simp
 ·have h1 := fitS_val h (-1048576 - m) (by omega) (.inl h0)
  have h2 := (qag (qeF z e)).2.2.2.1
  unfold sv
  rw [Int.mul_assoc, ← powZ_add, show ((qbh z e).1.e + 1048576).toNat + m = ((qbh z e).1.e - (-1048576 - m)).toNat by omega, powZ_eq, h1.2, powZ_eq]
  congr 2; omega
theorem zero_sv : sv zD = 0 := by unfold sv; rw [qoM, Int.zero_mul]
theorem sv_split {d : DyD} (h : -1048576 ≤ d.e) (k : Int) (hk : k ≤ d.e) (hk2 : -1048576 ≤ k) : sv d = d.num * 2 ^ (d.e - k).toNat * qo4 (k + 1048576).toNat := by
 unfold sv
 rw [← powZ_eq, Int.mul_assoc, ← powZ_add]
 congr 2; omega
theorem add_sv {a b : DyD} (ha : qad a = true) (hb : qad b = true) (h : (qaS a b).2 = 0) : sv (qaS a b).1 = sv a + sv b := by
 unfold qaS at h ⊢
 by_cases h1 : a.num = 0
 ·rw [if_pos h1, (qag ha).2.1 h1, zero_sv]; simp
 ·rw [if_neg h1] at h ⊢
  by_cases h2 : b.num = 0
  ·rw [if_pos h2, (qag hb).2.1 h2, zero_sv]; simp
  ·rw [if_neg h2] at h ⊢
   by_cases h3 : 131080 < max a.e b.e - min a.e b.e
   ·rw [if_pos h3] at h; exact absurd h (by decide)
   ·rw [if_neg h3] at h ⊢
    have ha2 := (qag ha).2.2.2
    have hb2 := (qag hb).2.2.2
    have m1 : min a.e b.e ≤ a.e := Int.min_le_left ..
    have m2 : min a.e b.e ≤ b.e := Int.min_le_right ..
    have m3 : -1048576 ≤ min a.e b.e := by omega
    have := fitS_sv h 0 (by omega)
    rw [show qo4 0 = 1 from rfl, Int.mul_one] at this
    rw [this, sv_split ha2.1 _ m1 m3, sv_split hb2.1 _ m2 m3, ← Int.add_mul, show min a.e b.e + 1048576 + ((0 : Nat) : Int) = min a.e b.e + 1048576 by omega]
theorem neg_sv (d : DyD) (h : qad d = true) : sv (negS d) = -sv d := by
 unfold sv; rw [negS_num, negS_e h, Int.neg_mul]
theorem sub_sv {a b : DyD} (ha : qad a = true) (hb : qad b = true) (h : (qdG a b).2 = 0) : sv (qdG a b).1 = sv a - sv b := by
 unfold qdG at h ⊢
 rw [add_sv ha (qfi hb) h, neg_sv b hb]; omega
theorem mul_sv {a b : DyD} (ha : qad a = true) (hb : qad b = true) (h : (mulS a b).2 = 0) : sv (mulS a b).1 * WW = sv a * sv b := by
 have ha2 := (qag ha).2.2.2
 have hb2 := (qag hb).2.2.2
 unfold mulS at h ⊢
 unfold WW
 rw [fitS_sv h 1048576 (by omega)]
 unfold sv
 rw [show (a.e + b.e + 1048576 + ((1048576 : Nat) : Int)).toNat = (a.e + 1048576).toNat + (b.e + 1048576).toNat by omega, powZ_add]
 have : ∀ x y p q : Int, x * y * (p * q) = x * p * (y * q) := fun x y p q => by
  rw [Int.mul_assoc, Int.mul_assoc]; congr 1; rw [← Int.mul_assoc, Int.mul_comm y p, Int.mul_assoc]
 exact this _ _ _ _
theorem cmpZ_le_iff (x y : Int) : qdA x y ≤ 0 ↔ x ≤ y := by
 unfold qdA; split
 ·exact ⟨fun _ => by omega, fun _ => by decide⟩
 ·split
  ·exact ⟨fun h => absurd h (by decide), fun _ => by omega⟩
  ·exact ⟨fun _ => by omega, fun _ => by decide⟩
theorem cmp_sv {a b : DyD} (ha : qad a = true) (hb : qad b = true) : qbx a b ≤ 0 ↔ sv a ≤ sv b := by
 have ha2 := (qag ha).2.2.2
 have hb2 := (qag hb).2.2.2
 have m1 : min a.e b.e ≤ a.e := Int.min_le_left ..
 have m2 : min a.e b.e ≤ b.e := Int.min_le_right ..
 have m3 : -1048576 ≤ min a.e b.e := by omega
 unfold qbx
 rw [cmpZ_le_iff, sv_split ha2.1 _ m1 m3, sv_split hb2.1 _ m2 m3]
 exact (Int.mul_le_mul_right (powZ_pos _)).symm
def Near2 (gx gy cx cy r : Int) : Prop := (gx - cx) * (gx - cx) + (gy - cy) * (gy - cy) ≤ r * r
theorem sq_nonneg (a : Int) : 0 ≤ a * a := by
 rcases Int.le_total 0 a with h | h
 ·exact Int.mul_nonneg h h
 ·exact Int.mul_nonneg_of_nonpos_of_nonpos h h
theorem sq_lt {a b : Int} (hb : 0 ≤ b) (h : b < a) : b * b < a * a := by
 have h1 : b * b ≤ b * a := Int.mul_le_mul_of_nonneg_left (Int.le_of_lt h) hb
 have h2 : b * a < a * a := Int.mul_lt_mul_of_pos_right h (by omega)
 omega
theorem sq_le_of {a b : Int} (ha : 0 ≤ b) (h : a * a ≤ b * b) : a ≤ b := by
 rcases Int.lt_or_le b a with h1 | h1
 ·have := sq_lt ha h1; omega
 ·exact h1
theorem dot_le {a b c d r s : Int} (hr : 0 ≤ r) (hs : 0 ≤ s) (h1 : a * a + b * b ≤ r * r) (h2 : c * c + d * d ≤ s * s) : a * c + b * d ≤ r * s := by
 apply sq_le_of (Int.mul_nonneg hr hs)
 have h3 : (a * a + b * b) * (c * c + d * d) ≤ (r * r) * (s * s) := Int.mul_le_mul h1 h2 (Int.add_nonneg (sq_nonneg _) (sq_nonneg _)) (sq_nonneg _)
 have h4 := sq_nonneg (a * d - b * c)
 have e1 : (a * c + b * d) * (a * c + b * d) + (a * d - b * c) * (a * d - b * c) = (a * a + b * b) * (c * c + d * d) := by
  simp only [Int.add_mul, Int.mul_add, Int.sub_mul, Int.mul_sub]
  have x1 : a * c * (b * d) = a * d * (b * c) := by ac_rfl
  have x2 : b * d * (a * c) = b * c * (a * d) := by ac_rfl
  have x3 : a * c * (a * c) = a * a * (c * c) := by ac_rfl
  have x4 : b * d * (b * d) = b * b * (d * d) := by ac_rfl
  have x5 : a * d * (a * d) = a * a * (d * d) := by ac_rfl
  have x6 : b * c * (b * c) = b * b * (c * c) := by ac_rfl
  rw [x1, x2, x3, x4, x5, x6]; omega
 have e2 : r * s * (r * s) = r * r * (s * s) := by ac_rfl
 omega
theorem near_add {px py qx qy sx sy r t : Int} (hr : 0 ≤ r) (ht : 0 ≤ t) (h1 : Near2 px py qx qy r) (h2 : Near2 qx qy sx sy t) : Near2 px py sx sy (r + t) := by
 unfold Near2 at *
 have h3 := dot_le hr ht h1 h2
 have e : ∀ p q s : Int, (p - s) * (p - s) = (p - q) * (p - q) + (q - s) * (q - s) + 2 * ((p - q) * (q - s)) := by
  intro p q s
  have : p - s = (p - q) + (q - s) := by omega
  rw [this]
  generalize p - q = u
  generalize q - s = v
  simp only [Int.add_mul, Int.mul_add]
  rw [Int.mul_comm v u]; omega
 rw [e px qx sx, e py qy sy]
 have e2 : (r + t) * (r + t) = r * r + t * t + 2 * (r * t) := by
  simp only [Int.add_mul, Int.mul_add]
  rw [Int.mul_comm t r]; omega
 rw [e2]; omega
theorem near_swap {px py qx qy r : Int} (h : Near2 px py qx qy r) : Near2 qx qy px py r := by
 unfold Near2 at *
 have e : ∀ p q : Int, (q - p) * (q - p) = (p - q) * (p - q) := by
  intro p q
  have : q - p = -(p - q) := by omega
  rw [this, Int.neg_mul_neg]
 rw [e px qx, e py qy]; exact h
theorem sq_between {l g h c : Int} (h1 : l ≤ g) (h2 : g ≤ h) : (g - c) * (g - c) ≤ (l - c) * (l - c) ∨ (g - c) * (g - c) ≤ (h - c) * (h - c) := by
 rcases Int.le_total g c with h3 | h3
 ·left
  have : (c - g) * (c - g) ≤ (c - l) * (c - l) := Int.mul_le_mul (by omega) (by omega) (by omega) (by omega)
  have e : ∀ p q : Int, (q - p) * (q - p) = (p - q) * (p - q) := by
   intro p q
   have : q - p = -(p - q) := by omega
   rw [this, Int.neg_mul_neg]
  rw [e c g, e c l]; exact this
 ·right
  exact Int.mul_le_mul (by omega) (by omega) (by omega) (by omega)
theorem near_square {lx ly hx hy gx gy cx cy r : Int} (h1 : lx ≤ gx) (h2 : gx ≤ hx) (h3 : ly ≤ gy) (h4 : gy ≤ hy) (k0 : Near2 lx ly cx cy r) (k1 : Near2 hx ly cx cy r) (k2 : Near2 lx hy cx cy r) (k3 : Near2 hx hy cx cy r) : Near2 gx gy cx cy r := by
 unfold Near2 at *
 rcases sq_between (c := cx) h1 h2 with a | a <;> rcases sq_between (c := cy) h3 h4 with b | b <;> omega
def GsD.x (g : GsD) : Int := sv g.re
def GsD.y (g : GsD) : Int := sv g.im
theorem qgW (a b : GsD) : (qej a b).2 = 0 ∨ qej a b = (zG, 4) := qeG _ _
theorem subG_sv {a b : GsD} (ha : gsB a = true) (hb : gsB b = true) (h : (qej a b).2 = 0) : (qej a b).1.x = a.x - b.x ∧ (qej a b).1.y = a.y - b.y := by
 obtain ⟨a1, a2⟩ := qam.1 ha
 obtain ⟨b1, b2⟩ := qam.1 hb
 unfold qej qaF at h ⊢
 by_cases h1 : (qdG a.re b.re).2 = 0 ∧ (qdG a.im b.im).2 = 0
 ·rw [if_pos h1]
  exact ⟨sub_sv a1 b1 h1.1, sub_sv a2 b2 h1.2⟩
 ·rw [if_neg h1] at h; exact absurd h (by decide)
theorem normG_sv {g : GsD} (hg : gsB g = true) (h : (qbX g).2 = 0) : sv (qbX g).1 * WW = g.x * g.x + g.y * g.y := by
 obtain ⟨g1, g2⟩ := qam.1 hg
 unfold qbX twoS at h ⊢
 by_cases h1 : (mulS g.re g.re).2 = 0 ∧ (mulS g.im g.im).2 = 0
 ·rw [if_pos h1] at h ⊢
  rw [add_sv (qdm _ _) (qdm _ _) h, Int.add_mul, mul_sv g1 g1 h1.1, mul_sv g2 g2 h1.2]; rfl
 ·rw [if_neg h1] at h; exact absurd h (by decide)
theorem WW_le {a b : Int} : a * WW ≤ b * WW ↔ a ≤ b := Int.mul_le_mul_right WW_pos
theorem far_le {c : GsD} (hc : gsB c = true) : ∀ (l : List GsD) (m n : DyD), (∀ g ∈ l, gsB g = true) → qad m = true → qd0 c l m = some n → qad n = true ∧ sv m ≤ sv n ∧ ∀ g ∈ l, (g.x - c.x) * (g.x - c.x) + (g.y - c.y) * (g.y - c.y) ≤ sv n * WW
 | [], m, n, _, hm, h => by
  unfold qd0 at h; cases h
  exact ⟨hm, Int.le_refl _, by simp⟩
 | g :: l, m, n, hl, hm, h => by
  unfold qd0 at h
  split at h
  ·rename_i h1
   have hg := hl g (List.mem_cons_self ..)
   have hs := qiw hg hc
   have hn := qgY (qej g c).1
   have e1 := subG_sv hg hc h1.1
   have e2 := normG_sv hs h1.2
   rw [e1.1, e1.2] at e2
   by_cases h2 : 0 < qbx (qbX (qej g c).1).1 m
   ·rw [if_pos h2] at h
    obtain ⟨k1, k2, k3⟩ := far_le hc l _ n (fun x hx => hl x (List.mem_cons_of_mem _ hx)) hn h
    have h3 : ¬ qbx (qbX (qej g c).1).1 m ≤ 0 := by omega
    rw [cmp_sv hn hm] at h3
    refine ⟨k1, by omega, ?_⟩
    intro x hx
    rcases List.mem_cons.1 hx with rfl | hx
    ·rw [← e2]; exact WW_le.2 k2
    ·exact k3 x hx
   ·rw [if_neg h2] at h
    obtain ⟨k1, k2, k3⟩ := far_le hc l _ n (fun x hx => hl x (List.mem_cons_of_mem _ hx)) hm h
    have h3 : qbx (qbX (qej g c).1).1 m ≤ 0 := by omega
    rw [cmp_sv hn hm] at h3
    refine ⟨k1, k2, ?_⟩
    intro x hx
    rcases List.mem_cons.1 hx with rfl | hx
    ·rw [← e2]; exact WW_le.2 (by omega)
    ·exact k3 x hx
  ·cases h
theorem qfT {f : Nat → Bool} : ∀ (k i j : Nat), i ≤ j → j - i < 2 ^ k → f j = true → f (qaO f k i j) = true ∧ i ≤ qaO f k i j ∧ qaO f k i j ≤ j
 | 0, i, j, h1, h2, h3 => by
  have : i = j := by simp at h2; omega
  subst this
  exact ⟨h3, Nat.le_refl _, Nat.le_refl _⟩
 | k + 1, i, j, h1, h2, h3 => by
  rw [Nat.pow_succ] at h2
  unfold qaO
  by_cases h : i < j
  ·rw [if_pos h]
   by_cases hf : f ((i + j) / 2) = true
   ·rw [if_pos hf]
    have := qfT k i ((i + j) / 2) (by omega) (by omega) hf
    exact ⟨this.1, this.2.1, by omega⟩
   ·rw [if_neg hf]
    have := qfT k ((i + j) / 2 + 1) j (by omega) (by omega) h3
    exact ⟨this.1, by omega, this.2.2⟩
  ·rw [if_neg h]
   have : i = j := by omega
   subst this
   exact ⟨h3, Nat.le_refl _, Nat.le_refl _⟩
theorem square_fin {b : Nat} (h : qbQ b = true) : (mulS (qa9 b).1 (qa9 b).1).2 = 0 := by
 have h1 := qcO h
 have h2 := qew b
 have h0 := qgU h
 have e : ∃ z t : Int, (qa9 b).1 = (qbh z t).1 ∧ (qbh z t).2 = 0 ∧ z.natAbs < 9007199254740992 ∧ -1074 ≤ t ∧ t ≤ 971 := by
  unfold qa9 at h0 ⊢
  rw [if_pos h] at h0 ⊢
  exact ⟨_, _, rfl, h0, by unfold qbP; split <;> omega, h1.1, h1.2⟩
 obtain ⟨z, t, e1, e2, e3, e4, e5⟩ := e
 rw [e1]
 have hv : (qbh z t).1.num.natAbs < 9007199254740992 ∧ -1074 ≤ (qbh z t).1.e ∧ (qbh z t).1.e ≤ 1048576 - 1048576 + 1100 := by
  unfold qbh at e2 ⊢
  split
  ·exact ⟨by rw [qoM]; decide, by decide, by decide⟩
  ·rename_i hz
   rw [if_neg hz] at e2
   split
   ·rename_i h3
    have h4 := qfI (show z.natAbs ≠ 0 by omega)
    have h5 : tz z.natAbs < 53 := h4.lt (show z.natAbs < 2 ^ 53 from e3)
    have h6 : z.natAbs / 2 ^ tz z.natAbs ≤ z.natAbs := Nat.div_le_self _ _
    have h7 : (z.sign * ((z.natAbs / 2 ^ tz z.natAbs : Nat) : Int)).natAbs = z.natAbs / 2 ^ tz z.natAbs := by
     rw [Int.natAbs_mul, Int.natAbs_sign_of_ne_zero hz, Nat.one_mul]; rfl
    refine ⟨by rw [qoe, h7]; omega, ?_, ?_⟩
    ·show -1074 ≤ t + _; omega
    ·show t + ((tz z.natAbs : Nat) : Int) ≤ _; omega
   ·rename_i h3; rw [if_neg h3] at e2; exact absurd e2 (by decide)
 obtain ⟨v1, v2, v3⟩ := hv
 generalize (qbh z t).1 = d at v1 v2 v3
 unfold mulS qbh
 by_cases h0 : d.num * d.num = 0
 ·rw [if_pos h0]
 ·rw [if_neg h0]
  have h3 : (d.num * d.num).natAbs < 2 ^ 106 := by
   rw [Int.natAbs_mul]
   have := Nat.mul_lt_mul'' v1 v1
   omega
  have h4 := qfI (show (d.num * d.num).natAbs ≠ 0 by omega)
  have h5 : tz (d.num * d.num).natAbs < 106 := h4.lt h3
  have h6 : (d.num * d.num).natAbs / 2 ^ tz (d.num * d.num).natAbs ≤ (d.num * d.num).natAbs := Nat.div_le_self _ _
  rw [if_pos]
  refine ⟨?_, by omega, by omega⟩
  rw [qeh]
  refine qgp (a := 14) ?_ (by omega)
  have : (2 : Nat) ^ 106 < 256 ^ 14 := by decide
  omega
theorem fltS_nonneg {b : Nat} (h : b < SG) : 0 ≤ sv (qa9 b).1 := by
 have h1 : 0 ≤ (qa9 b).1.num := by
  unfold qa9
  split
  ·rw [decide_eq_false (show ¬ SG ≤ b by omega)]
   show 0 ≤ (qbh ((qar b : Nat) : Int) (qbk b)).1.num
   unfold qbh
   split
   ·exact Int.le_refl _
   ·split
    ·rw [qoe]
     rename_i h0 _
     rw [Int.sign_eq_one_of_pos (by omega), Int.one_mul]
     exact Int.natCast_nonneg _
    ·exact Int.le_refl _
  ·exact Int.le_refl _
 exact Int.mul_nonneg h1 (Int.le_of_lt (powZ_pos _))
theorem reach_sv {n : DyD} (hn : qad n = true) {b : Nat} (hf : qbQ b = true) (h : qbb n b = true) : sv n * WW ≤ sv (qa9 b).1 * sv (qa9 b).1 := by
 have h := of_decide_eq_true h
 have h1 : qbx n (mulS (qa9 b).1 (qa9 b).1).1 ≤ 0 := by rw [qhR]; omega
 rw [cmp_sv hn (qdm _ _)] at h1
 rw [← mul_sv (qfj b) (qfj b) (square_fin hf)]
 exact WW_le.2 h1
theorem qoi {b : Nat} (h : b ≤ qbB) : qbQ b = true := by
 unfold qbQ qaP; unfold qbB at h
 rw [decide_eq_true_eq]; omega
def BaD.c (b : BaD) : GsD := ⟨(qa9 b.re).1, (qa9 b.im).1⟩
def BaD.rad (b : BaD) : DyD := (qa9 b.r).1
theorem BaD.c_ok (b : BaD) : gsB b.c = true := qam.2 ⟨qfj _, qfj _⟩
structure BallOK (b : BaD) : Prop where
 re : qbQ b.re = true
 im : qbQ b.im = true
 r : b.r ≤ qbB
theorem BallOK.rad_nonneg {b : BaD} (h : BallOK b) : 0 ≤ sv b.rad := fltS_nonneg (by have := h.r; unfold qbB at this; unfold SG; omega)
theorem cover_corners {s : SqD} (hs : sqB s = true) {b : BaD} (h : qaj s = (b, 0)) : ∃ l, qaA s = some l ∧ BallOK b ∧ ∀ g ∈ l, Near2 g.x g.y b.c.x b.c.y (sv b.rad) := by
 unfold qaj at h
 cases hl : qaA s with
 | none => rw [hl] at h; cases h
 | some l =>
  rw [hl] at h
  simp only at h
  refine ⟨l, rfl, ?_⟩
  by_cases h1 : (qbu s).2 = 0
  ·rw [if_pos h1] at h
   by_cases h2 : (qbQ (qaQ (qbu s).1.re) && qbQ (qaQ (qbu s).1.im)) = true
   ·rw [if_pos h2] at h
    rw [Bool.and_eq_true] at h2
    cases hf : qd0 ⟨(qa9 (qaQ (qbu s).1.re)).1, (qa9 (qaQ (qbu s).1.im)).1⟩ l zD with
    | none => rw [hf] at h; cases h
    | some n =>
     rw [hf] at h
     simp only at h
     by_cases h3 : qbb n qbB = true
     ·rw [if_pos h3] at h
      obtain ⟨rfl, -⟩ := Prod.mk.inj h
      have h4 := qfT (f := qbb n) 64 0 qbB (by omega) (by unfold qbB; omega) h3
      obtain ⟨n1, -, n3⟩ := far_le (c := ⟨(qa9 (qaQ (qbu s).1.re)).1, (qa9 (qaQ (qbu s).1.im)).1⟩) (qam.2 ⟨qfj _, qfj _⟩) l zD n (qoE hs hl) qdF hf
      refine ⟨⟨h2.1, h2.2, h4.2.2⟩, ?_⟩
      intro g hg
      exact Int.le_trans (n3 g hg) (reach_sv n1 (qoi h4.2.2) h4.1)
     ·rw [if_neg h3] at h; exact absurd (Prod.mk.inj h).2 (by decide)
   ·rw [if_neg h2] at h; exact absurd (Prod.mk.inj h).2 (by decide)
  ·rw [if_neg h1] at h; exact absurd (Prod.mk.inj h).2 (by decide)
def qen (a b : GsD) (r : DyD) : Int × Int := if (qej a b).2 = 0 ∧ (qbX (qej a b).1).2 = 0 ∧ (mulS r r).2 = 0 then (qbx (qbX (qej a b).1).1 (mulS r r).1, 0) else (0, 4)
def inS (g c : GsD) (r : DyD) : Bool × Int := (decide ((qen g c r).2 = 0) && decide ((qen g c r).1 ≤ 0), (qen g c r).2)
def qeK (c : GsD) (r : DyD) (d : GsD) (s : DyD) : Bool × Int := if 0 < qbx r s then (false, 0) else if (qdG s r).2 = 0 then inS c d (qdG s r).1 else (false, 4)
def qfS (c : GsD) (r : DyD) (d : GsD) (s : DyD) : Bool × Int := if (qaS r s).2 = 0 then (decide ((qen c d (qaS r s).1).2 = 0) && decide (0 < (qen c d (qaS r s).1).1), (qen c d (qaS r s).1).2) else (false, 4)
theorem farC_sv {a b : GsD} {r : DyD} (ha : gsB a = true) (hb : gsB b = true) (hr : qad r = true) (h : (qen a b r).2 = 0) : (qen a b r).1 ≤ 0 ↔ Near2 a.x a.y b.x b.y (sv r) := by
 unfold qen at h ⊢
 by_cases h1 : (qej a b).2 = 0 ∧ (qbX (qej a b).1).2 = 0 ∧ (mulS r r).2 = 0
 ·rw [if_pos h1]
  have e1 := subG_sv ha hb h1.1
  have e2 := normG_sv (qiw ha hb) h1.2.1
  rw [e1.1, e1.2] at e2
  show qbx _ _ ≤ 0 ↔ _
  rw [cmp_sv (qgY _) (qdm _ _)]
  unfold Near2
  rw [← e2, ← mul_sv hr hr h1.2.2]
  exact WW_le.symm
 ·rw [if_neg h1] at h; exact absurd h (by decide)
theorem within_points {c : GsD} {r : DyD} {d : GsD} {s : DyD} (hc : gsB c = true) (hr : qad r = true) (hd : gsB d = true) (hs : qad s = true) (h0 : 0 ≤ sv r) (h : qeK c r d s = (true, 0)) {px py : Int} (hp : Near2 px py c.x c.y (sv r)) : Near2 px py d.x d.y (sv s) := by
 unfold qeK at h
 by_cases h1 : 0 < qbx r s
 ·rw [if_pos h1] at h; exact absurd (Prod.mk.inj h).1 (by decide)
 ·rw [if_neg h1] at h
  have h1 : qbx r s ≤ 0 := by omega
  rw [cmp_sv hr hs] at h1
  by_cases h2 : (qdG s r).2 = 0
  ·rw [if_pos h2] at h
   have e := sub_sv hs hr h2
   unfold inS at h
   obtain ⟨h3, h4⟩ := Prod.mk.inj h
   rw [Bool.and_eq_true, decide_eq_true_eq, decide_eq_true_eq] at h3
   have h5 := (farC_sv hc hd (qis hs hr) h4).1 h3.2
   rw [e] at h5
   have := near_add h0 (by omega) hp h5
   rw [show sv r + (sv s - sv r) = sv s by omega] at this
   exact this
  ·rw [if_neg h2] at h; exact absurd (Prod.mk.inj h).1 (by decide)
theorem apart_points {c : GsD} {r : DyD} {d : GsD} {s : DyD} (hc : gsB c = true) (hr : qad r = true) (hd : gsB d = true) (hs : qad s = true) (h0 : 0 ≤ sv r) (hs0 : 0 ≤ sv s) (h : qfS c r d s = (true, 0)) {px py : Int} (hp : Near2 px py c.x c.y (sv r)) : ¬ Near2 px py d.x d.y (sv s) := by
 intro hq
 unfold qfS at h
 by_cases h2 : (qaS r s).2 = 0
 ·rw [if_pos h2] at h
  obtain ⟨h3, h4⟩ := Prod.mk.inj h
  rw [Bool.and_eq_true, decide_eq_true_eq, decide_eq_true_eq] at h3
  have h5 : ¬ (qen c d (qaS r s).1).1 ≤ 0 := by omega
  rw [farC_sv hc hd (qgt hr hs) h4, add_sv hr hs h2] at h5
  exact h5 (near_add h0 hs0 (near_swap hp) hq)
 ·rw [if_neg h2] at h; exact absurd (Prod.mk.inj h).1 (by decide)
theorem inS_sv {g c : GsD} {r : DyD} (hg : gsB g = true) (hc : gsB c = true) (hr : qad r = true) (h : (inS g c r).2 = 0) : (inS g c r).1 = true ↔ Near2 g.x g.y c.x c.y (sv r) := by
 have h' : (qen g c r).2 = 0 := h
 rw [← farC_sv hg hc hr h']
 show (decide ((qen g c r).2 = 0) && decide ((qen g c r).1 ≤ 0)) = true ↔ _
 rw [Bool.and_eq_true, decide_eq_true_eq, decide_eq_true_eq]
 exact ⟨fun h => h.2, fun h => ⟨h', h⟩⟩
theorem cover_holds {s : SqD} (hs : sqB s = true) {b : BaD} (h : qaj s = (b, 0)) {g : GsD} (hg : gsB g = true) (hh : qcg s g = some true) : Near2 g.x g.y b.c.x b.c.y (sv b.rad) := by
 obtain ⟨l, hl, hb, hn⟩ := cover_corners hs h
 obtain ⟨s1, s2, -, -⟩ := qas.1 hs
 obtain ⟨g1, g2⟩ := qam.1 hg
 unfold qaA at hl
 unfold qcg at hh
 by_cases h1 : (qaN s).2 = 0 ∧ (qaZ s).2 = 0
 ·rw [if_pos h1] at hl hh
  cases hl
  have hx : qad (qaN s).1 = true := qce _ _ s1
  have hy : qad (qaZ s).1 = true := qce _ _ s2
  have hh := Option.some.inj hh
  simp only [Bool.and_eq_true, decide_eq_true_eq] at hh
  rw [cmp_sv s1 g1, cmp_sv g1 hx, cmp_sv s2 g2, cmp_sv g2 hy] at hh
  have k0 := hn ⟨s.left, s.low⟩ (List.mem_cons_self ..)
  have k1 := hn ⟨(qaN s).1, s.low⟩ (List.mem_cons_of_mem _ (List.mem_cons_self ..))
  have k2 := hn ⟨s.left, (qaZ s).1⟩ (List.mem_cons_of_mem _ (List.mem_cons_of_mem _ (List.mem_cons_self ..)))
  have k3 := hn ⟨(qaN s).1, (qaZ s).1⟩ (List.mem_cons_of_mem _ (List.mem_cons_of_mem _ (List.mem_cons_of_mem _ (List.mem_cons_self ..))))
  clear hn hb hx hy s1 s2 g1 g2
  simp only [GsD.x, GsD.y] at k0 k1 k2 k3 ⊢
  generalize sv s.left = a0 at *
  generalize sv s.low = a1 at *
  generalize sv (qaN s).1 = a2 at *
  generalize sv (qaZ s).1 = a3 at *
  generalize sv g.re = a4 at *
  generalize sv g.im = a5 at *
  generalize sv b.c.re = a6 at *
  generalize sv b.c.im = a7 at *
  generalize sv b.rad = a8 at *
  exact near_square hh.1 hh.2.1 hh.2.2.1 hh.2.2.2 k0 k1 k2 k3
 ·rw [if_neg h1] at hl; cases hl
section
set_option maxHeartbeats 3200000
set_option maxRecDepth 100000
theorem gfar_any (x y : GsD) (r : DyD) (w : World) (hx : gsB x = true) (hy : gsB y = true) (hr : qad r = true) (hT : T32 w) :
  Calls prog 58 #[.agg #[.bool x.re.neg, .string x.re.n, .int .i64 x.re.e, .bool x.im.neg, .string x.im.n, .int .i64 x.im.e], .agg #[.bool y.re.neg, .string y.re.n, .int .i64 y.re.e, .bool y.im.neg, .string y.im.n, .int .i64 y.im.e], .agg #[.bool r.neg, .string r.n, .int .i64 r.e]] w
   fun en w' => en = .returned (.tuple #[.int .i64 (qen x y r).1, .int .i64 (qen x y r).2]) ∧ Kept w w' := by
 have SUB : Hid (∀ W, Kept w W → Calls prog 67 #[.agg #[.bool x.re.neg, .string x.re.n, .int .i64 x.re.e, .bool x.im.neg, .string x.im.n, .int .i64 x.im.e], .agg #[.bool y.re.neg, .string y.re.n, .int .i64 y.re.e, .bool y.im.neg, .string y.im.n, .int .i64 y.im.e]] W fun en w' => en = .returned (qaC (qej x y)) ∧ Kept W w') := fun W h => qnl x y W hx hy (hT.kept h)
 have MUL : Hid (∀ W, Kept w W → Calls prog 97 #[.agg #[.bool r.neg, .string r.n, .int .i64 r.e], .agg #[.bool r.neg, .string r.n, .int .i64 r.e]] W fun en w' => en = .returned (qaf (mulS r r)) ∧ Kept W w') := fun W h => qgQ r r W hr hr (hT.kept h)
 have HS := qgW x y
 have HM := qgD r r
 have hS1 := qiw hx hy
 have hM1 := qdm r r
 unfold qen
 generalize qej x y = S at *
 generalize mulS r r = M at *
 have NRM : Hid (∀ W, Kept w W → Calls prog 68 #[.agg #[.bool S.1.re.neg, .string S.1.re.n, .int .i64 S.1.re.e, .bool S.1.im.neg, .string S.1.im.n, .int .i64 S.1.im.e]] W fun en w' => en = .returned (qaf (qbX S.1)) ∧ Kept W w') := fun W h => qmo S.1 W hS1 (hT.kept h)
 have HN : (qbX S.1).2 = 0 ∨ qbX S.1 = (zD, 4) := qhg _ _
 have hN1 := qgY S.1
 generalize qbX S.1 = N at *
 have CMP := qh (fun W => qdr N.1 M.1 W hN1 hM1)
 generalize qbx N.1 M.1 = C at *
 obtain ⟨⟨⟨a0, a1, a2⟩, ⟨a3, a4, a5⟩⟩, a6⟩ := S
 obtain ⟨⟨n0, n1, n2⟩, n3⟩ := N
 obtain ⟨⟨m0, m1, m2⟩, m3⟩ := M
 obtain ⟨⟨x0, x1, x2⟩, ⟨x3, x4, x5⟩⟩ := x
 obtain ⟨⟨y0, y1, y2⟩, ⟨y3, y4, y5⟩⟩ := y
 obtain ⟨r0, r1, r2⟩ := r
 simp only at SUB MUL NRM CMP HS HM HN ⊢
 have hs : a6 = 0 ∨ a6 = 4 := HS.imp id (fun h => (Prod.mk.inj h).2)
 have hn : n3 = 0 ∨ n3 = 4 := HN.imp id (fun h => (Prod.mk.inj h).2)
 have hm : m3 = 0 ∨ m3 = 4 := HM.imp id (fun h => (Prod.mk.inj h).2)
 clear hx hy hr hT HS HM HN hS1 hM1 hN1
 go_enter func58, ntmps58
 go_upto_region 1 with fail
 obtain ⟨b, w1, hw, hb, B0, B1, B2, K1, HB⟩ := qct w (LC1 x0 x1 x2 x3 x4 x5) 28 (LC1 y0 y1 y2 y3 y4 y5) 28 (LC0 r0 r1 r2) 24
 rw [← hw, ← hb]; clear hw hb
 obtain ⟨c0, c1, c2, c3, c4, c5⟩ := B0.out.c6
 obtain ⟨d0, d1, d2, d3, d4, d5⟩ := B1.out.c6
 go_upto_region 2 with (go_at_call 67; (with_reducible refine (SUB.out _ K1.out).mono ?_); rintro e w3 ⟨rfl, hk3⟩)
 have K4 := qh (Kept.new hk3 (.cells (LC1 a0 a1 a2 a3 a4 a5).toArray 28))
 have B3 := qh (Bx.new w3 (LC1 a0 a1 a2 a3 a4 a5) 28 w3.heap.size rfl)
 obtain ⟨g, hg⟩ : ∃ g, g = w3.heap.size := ⟨_, rfl⟩
 rw [← hg] at B3 ⊢
 clear hg hk3 SUB c0 c1 c2 c3 c4 c5 d0 d1 d2 d3 d4 d5
 generalize (w3.alloc (.cells (LC1 a0 a1 a2 a3 a4 a5).toArray 28)) = w4 at *
 rcases hs with rfl | rfl
 ·obtain ⟨c0, c1, c2, c3, c4, c5⟩ := B3.out.c6
  go_upto_region 5 with (go_at_call 68; (with_reducible refine (NRM.out _ (K1.out.trans' K4.out)).mono ?_); rintro e w5 ⟨rfl, hk5⟩)
  have K6 := qh (Kept.new (K4.out.trans' hk5) (.cells (LC0 n0 n1 n2).toArray 24))
  have B4 := qh (Bx.new w5 (LC0 n0 n1 n2) 24 w5.heap.size rfl)
  obtain ⟨g2, hg2⟩ : ∃ g, g = w5.heap.size := ⟨_, rfl⟩
  rw [← hg2] at B4 ⊢
  clear hg2 hk5 K4 B3 NRM c0 c1 c2 c3 c4 c5
  generalize (w5.alloc (.cells (LC0 n0 n1 n2).toArray 24)) = w6 at *
  rcases hn with rfl | rfl
  ·obtain ⟨c0, c1, c2⟩ := (B2.out.kept K6.out).c3
   go_upto_region 8 with (go_at_call 97; (with_reducible refine (MUL.out _ (K1.out.trans' K6.out)).mono ?_); rintro e w7 ⟨rfl, hk7⟩)
   have K8 := qh (Kept.new (K6.out.trans' hk7) (.cells (LC0 m0 m1 m2).toArray 24))
   have B5 := qh (Bx.new w7 (LC0 m0 m1 m2) 24 w7.heap.size rfl)
   have B6 := qh ((B4.out.kept hk7).kept (Kept.new (Below.refl _ _) (.cells (LC0 m0 m1 m2).toArray 24)))
   obtain ⟨g3, hg3⟩ : ∃ g, g = w7.heap.size := ⟨_, rfl⟩
   rw [← hg3] at B5 ⊢
   clear hg3 hk7 K6 B4 MUL c0 c1 c2
   generalize (w7.alloc (.cells (LC0 m0 m1 m2).toArray 24)) = w8 at *
   rcases hm with rfl | rfl
   ·obtain ⟨c0, c1, c2⟩ := B6.out.c3
    obtain ⟨d0, d1, d2⟩ := B5.out.c3
    go_wp2_with (go_at_call 69; (with_reducible refine (CMP.out _).mono ?_); rintro e w9 ⟨rfl, hk9⟩)
    go_ret2
    exact ⟨rfl, (K1.out.trans' K8.out).trans' hk9⟩
   ·go_wp2_with fail
    go_ret2
    exact ⟨rfl, K1.out.trans' K8.out⟩
  ·go_wp2_with fail
   go_ret2
   exact ⟨rfl, K1.out.trans' K6.out⟩
 ·go_wp2_with fail
  go_ret2
  exact ⟨rfl, K1.out.trans' K4.out⟩
theorem gradii_any (r : DyD) (hr : qad r = true) (h0 : 0 ≤ r.num) (w : World) (g : Nat) (hb : Bx w g (LC0 r.neg r.n r.e)) :
  Calls prog 57 #[.slice (some ⟨g, 0, none⟩) 1 1] w fun en w' => en = .returned (.bool true) ∧ Kept w w' := by
 have CK : Hid (∀ W, Calls prog 19 #[.agg #[.bool r.neg, .string r.n, .int .i64 r.e]] W fun e w' => e = .returned (.int .i64 0) ∧ Kept W w') := fun W => by
  have := qbq r W (qda hr)
  unfold qcK at this
  rw [hr] at this
  exact this
 have SG := qh (fun W => qcP r W hr)
 have hs : ¬ r.num.sign < 0 := by have := Int.sign_nonneg_iff.2 h0; omega
 generalize r.num.sign = s at *
 obtain ⟨r0, r1, r2⟩ := r
 simp only at CK SG hb
 have HB := qh hb
 clear hb hr h0
 go_enter func57, ntmps57
 go_wp2_with fail
 go_loopg [4, 7] 1 (fun gh v4 v7 wr => ∃ i : Nat, i + gh = 1 ∧ v7 = .int .i64 i ∧ Kept w wr)
 case atStart => exact ⟨0, by omega, rfl, Below.refl _ _⟩
 case round =>
  obtain ⟨i, hig, rfl, hk⟩ := hrel
  have HK := qh hk
  have B := HB.out.kept hk
  obtain ⟨c0, c1, c2⟩ := B.c3
  have hlt := B.lt
  have hwl := hk.size
  clear hk B
  rcases (show i = 0 ∨ i = 1 by omega) with rfl | rfl
  ·obtain rfl : gk = 1 := by omega
   have BN := qh (Bx.new wr (LC0 r0 r1 r2) 24 wr.heap.size rfl)
   go_wp2_with (first
    | (go_at_call 19; (with_reducible refine (CK.out _).mono ?_); rintro e w3 ⟨rfl, hk3⟩; obtain ⟨d0, d1, d2⟩ := (BN.out.kept hk3).c3; have K3 := qh ((HK.out.new _).trans' hk3))
    | (go_at_call 20; (with_reducible refine (SG.out _).mono ?_); rintro e w4 ⟨rfl, hk4⟩))
   go_roundg 0
   case measure => omega
   case rel => exact ⟨1, by omega, by go_num, K3.out.trans' hk4⟩
  ·obtain rfl : gk = 0 := by omega
   go_wp2_with fail
   go_ret
   exact ⟨rfl, HK.out⟩
theorem gin_any (x y : GsD) (r : DyD) (w : World) (hx : gsB x = true) (hy : gsB y = true) (hr : qad r = true) (h0 : 0 ≤ r.num) (hT : T32 w) :
  Calls prog 23 #[.agg #[.bool x.re.neg, .string x.re.n, .int .i64 x.re.e, .bool x.im.neg, .string x.im.n, .int .i64 x.im.e], .agg #[.bool y.re.neg, .string y.re.n, .int .i64 y.re.e, .bool y.im.neg, .string y.im.n, .int .i64 y.im.e], .agg #[.bool r.neg, .string r.n, .int .i64 r.e]] w
   fun en w' => en = .returned (.tuple #[.bool (inS x y r).1, .int .i64 (inS x y r).2]) ∧ Kept w w' := by
 have ALL := qh (qhE x y hx hy)
 have RAD := qh (gradii_any r hr h0)
 have FAR : Hid (∀ W, Kept w W → Calls prog 58 #[.agg #[.bool x.re.neg, .string x.re.n, .int .i64 x.re.e, .bool x.im.neg, .string x.im.n, .int .i64 x.im.e], .agg #[.bool y.re.neg, .string y.re.n, .int .i64 y.re.e, .bool y.im.neg, .string y.im.n, .int .i64 y.im.e], .agg #[.bool r.neg, .string r.n, .int .i64 r.e]] W
   fun en w' => en = .returned (.tuple #[.int .i64 (qen x y r).1, .int .i64 (qen x y r).2]) ∧ Kept W w') := fun W h => gfar_any x y r W hx hy hr (hT.kept h)
 unfold inS
 generalize qen x y r = F at *
 obtain ⟨f0, f1⟩ := F
 obtain ⟨⟨x0, x1, x2⟩, ⟨x3, x4, x5⟩⟩ := x
 obtain ⟨⟨y0, y1, y2⟩, ⟨y3, y4, y5⟩⟩ := y
 obtain ⟨r0, r1, r2⟩ := r
 simp only at ALL RAD FAR ⊢
 clear hx hy hr h0 hT
 go_enter func23, ntmps23
 go_upto_region 1 with fail
 obtain ⟨b, w1, hw, hb, B0, B1, B2, K1, HB⟩ := qct w (LC1 x0 x1 x2 x3 x4 x5) 28 (LC1 y0 y1 y2 y3 y4 y5) 28 (LC0 r0 r1 r2) 24
 rw [← hw, ← hb]; clear hw hb
 obtain ⟨c0, c1, c2, c3, c4, c5⟩ := B0.out.c6
 obtain ⟨d0, d1, d2, d3, d4, d5⟩ := B1.out.c6
 by_cases h1 : f1 = 0
 ·subst h1
  go_wp2_with (first
   | (go_at_call 56; (with_reducible refine (ALL.out _ _ ?_).mono ?_); (exact Bx.new _ _ _ _ rfl); rintro e w3 ⟨rfl, hk3⟩; have K3 := qh ((Kept.new (Below.refl _ _) _).trans' hk3); obtain ⟨r0, r1, r2⟩ := (B2.out.kept K3.out).c3)
   | (go_at_call 57; (with_reducible refine (RAD.out _ _ ?_).mono ?_); (exact Bx.new _ _ _ _ rfl); rintro e w4 ⟨rfl, hk4⟩; have K4 := qh ((Kept.new K3.out _).trans' hk4); obtain ⟨c0, c1, c2, c3, c4, c5⟩ := (B0.out.kept K4.out).c6; obtain ⟨d0, d1, d2, d3, d4, d5⟩ := (B1.out.kept K4.out).c6; obtain ⟨r0, r1, r2⟩ := (B2.out.kept K4.out).c3)
   | (go_at_call 58; (with_reducible refine (FAR.out _ (K1.out.trans' K4.out)).mono ?_); rintro e w5 ⟨rfl, hk5⟩))
  go_ret2
  exact ⟨by simp, (K1.out.trans' K4.out).trans' hk5⟩
 ·go_wp2_with (first
   | (go_at_call 56; (with_reducible refine (ALL.out _ _ ?_).mono ?_); (exact Bx.new _ _ _ _ rfl); rintro e w3 ⟨rfl, hk3⟩; have K3 := qh ((Kept.new (Below.refl _ _) _).trans' hk3); obtain ⟨r0, r1, r2⟩ := (B2.out.kept K3.out).c3)
   | (go_at_call 57; (with_reducible refine (RAD.out _ _ ?_).mono ?_); (exact Bx.new _ _ _ _ rfl); rintro e w4 ⟨rfl, hk4⟩; have K4 := qh ((Kept.new K3.out _).trans' hk4); obtain ⟨c0, c1, c2, c3, c4, c5⟩ := (B0.out.kept K4.out).c6; obtain ⟨d0, d1, d2, d3, d4, d5⟩ := (B1.out.kept K4.out).c6; obtain ⟨r0, r1, r2⟩ := (B2.out.kept K4.out).c3)
   | (go_at_call 58; (with_reducible refine (FAR.out _ (K1.out.trans' K4.out)).mono ?_); rintro e w5 ⟨rfl, hk5⟩))
  go_ret2
  exact ⟨by simp [h1], (K1.out.trans' K4.out).trans' hk5⟩
end
section
set_option maxHeartbeats 3200000
set_option maxRecDepth 100000
theorem qhC (p q : DyD) (w : World) (hp : p.ok) (hq : q.ok) :
  Calls prog 62 #[.agg #[.bool p.neg, .string p.n, .int .i64 p.e, .bool q.neg, .string q.n, .int .i64 q.e]] w fun e w' => e = .returned (.bool (qad p && qad q)) ∧ Kept w w' := by
 have CP := qh (fun (W : World) => qdW p W hp)
 have CQ := qh (fun (W : World) => qdW q W hq)
 generalize qad p = bp at *
 generalize qad q = bq at *
 obtain ⟨p0, p1, p2⟩ := p
 obtain ⟨q0, q1, q2⟩ := q
 simp only at CP CQ ⊢
 clear hp hq
 cases bp with
 | false =>
  go_enter func62, ntmps62
  go_upto_region 1 with fail
  obtain ⟨b, w1, hw, hb, B0, K1, HB⟩ := qa4 w (LC1 p0 p1 p2 q0 q1 q2) 28
  rw [← hw, ← hb]; clear hw hb
  obtain ⟨c0, c1, c2, c3, c4, c5⟩ := B0.out.c6
  go_wp2_with (go_at_call 73; (with_reducible refine (CP.out _).mono ?_); rintro e w2 ⟨rfl, hk2⟩)
  go_ret
  exact ⟨rfl, K1.out.trans' hk2⟩
 | true =>
  go_enter func62, ntmps62
  go_upto_region 1 with fail
  obtain ⟨b, w1, hw, hb, B0, K1, HB⟩ := qa4 w (LC1 p0 p1 p2 q0 q1 q2) 28
  rw [← hw, ← hb]; clear hw hb
  obtain ⟨c0, c1, c2, c3, c4, c5⟩ := B0.out.c6
  go_wp2_with fail
  (with_reducible refine (CP.out _).mono ?_)
  rintro e w2 ⟨rfl, hk2⟩
  obtain ⟨c0, c1, c2, c3, c4, c5⟩ := (B0.out.kept hk2).c6
  have K2 := qh hk2
  clear hk2 CP
  go_wp2_with fail
  (with_reducible refine (CQ.out _).mono ?_)
  rintro e w3 ⟨rfl, hk3⟩
  go_wp2_with fail
  go_ret
  exact ⟨by simp, (K1.out.trans' K2.out).trans' hk3⟩
theorem qfm (x y : Nat) (w : World) (hx : x < 18446744073709551616) (hy : y < 18446744073709551616) :
  Calls prog 78 #[.complex .f64 x y] w fun en w' => en = .returned (qaC (qbE x y)) ∧ Kept w w' := by
 have F1 : Hid (∀ W, Calls prog 118 #[.float .f64 x] W fun en w' => en = .returned (qaf (qa9 x)) ∧ Kept W w') := fun W => qd6 x W hx
 have F2 : Hid (∀ W, Calls prog 118 #[.float .f64 y] W fun en w' => en = .returned (qaf (qa9 y)) ∧ Kept W w') := fun W => qd6 y W hy
 unfold qbE
 generalize qa9 x = R at *
 generalize qa9 y = Q at *
 obtain ⟨⟨r0, r1, r2⟩, r3⟩ := R
 obtain ⟨⟨q0, q1, q2⟩, q3⟩ := Q
 simp only at F1 F2 ⊢
 clear hx hy
 obtain ⟨v, hv⟩ : ∃ v : GsD × Int, v = (if r3 = 0 ∧ q3 = 0 then ((⟨⟨r0, r1, r2⟩, ⟨q0, q1, q2⟩⟩, 0) : GsD × Int) else (zG, 5)) := ⟨_, rfl⟩
 rw [← hv]
 have HV := qh hv
 clear hv
 go_enter func78, ntmps78
 go_upto_region 1 with fail
 obtain ⟨b, w1, hw, hb, B0, K1, HB⟩ := qa4 w ZL0 28
 rw [← hw, ← hb]; clear hw hb
 go_upto_region 2 with (go_at_call 118; (with_reducible refine (F1.out _).mono ?_); rintro e w3 ⟨rfl, hk3⟩)
 have K4 := qh (Kept.new hk3 (.cells (LC0 r0 r1 r2).toArray 24))
 have B1 := qh (Bx.new w3 (LC0 r0 r1 r2) 24 w3.heap.size rfl)
 obtain ⟨g, hg⟩ : ∃ g, g = w3.heap.size := ⟨_, rfl⟩
 rw [← hg] at B1 ⊢
 clear hg hk3
 generalize (w3.alloc (.cells (LC0 r0 r1 r2).toArray 24)) = w4 at *
 go_upto_region 3 with (go_at_call 118; (with_reducible refine (F2.out _).mono ?_); rintro e w5 ⟨rfl, hk5⟩)
 have K6 := qh (Kept.new (K4.out.trans' hk5) (.cells (LC0 q0 q1 q2).toArray 24))
 have B2 := qh (Bx.new w5 (LC0 q0 q1 q2) 24 w5.heap.size rfl)
 replace B1 := qh ((B1.out.kept hk5).kept (Kept.new (Below.refl _ _) (.cells (LC0 q0 q1 q2).toArray 24)))
 obtain ⟨g2, hg⟩ : ∃ g, g = w5.heap.size := ⟨_, rfl⟩
 rw [← hg] at B2 ⊢
 clear hg hk5
 generalize (w5.alloc (.cells (LC0 q0 q1 q2).toArray 24)) = w6 at *
 clear F1 F2
 obtain ⟨c0, c1, c2⟩ := B1.out.c3
 obtain ⟨d0, d1, d2⟩ := B2.out.c3
 obtain ⟨e0, e1, e2, e3, e4, e5⟩ := (B0.out.kept K6.out).c6
 obtain ⟨f0, f1, f2, f3, f4, f5⟩ := (B0.out.kept K6.out).f6
 by_cases h1 : r3 = 0
 ·by_cases h2 : q3 = 0
  ·subst h1 h2
   go_wp2_with fail
   exact bodyPost_ret (v := qaC (⟨⟨r0, r1, r2⟩, ⟨q0, q1, q2⟩⟩, 0)) (by simp [results, results78, go_sem, e0, e1, e2, e3, e4, e5, qaC]) rfl ⟨by rw [HV.out]; rfl, (K1.out.trans' K6.out).qdk HB.out _ _ _ _ _ _⟩
  ·subst h1
   go_wp2_with fail
   exact bodyPost_ret (v := qaC (zG, 5)) (by simp [results, results78, go_sem, e0, e1, e2, e3, e4, e5, qaC, zG, zD]) rfl ⟨by rw [HV.out, if_neg (fun h => h2 h.2)], (K1.out.trans' K6.out).qdk HB.out _ _ _ _ _ _⟩
 ·go_wp2_with fail
  exact bodyPost_ret (v := qaC (zG, 5)) (by simp [results, results78, go_sem, e0, e1, e2, e3, e4, e5, qaC, zG, zD]) rfl ⟨by rw [HV.out, if_neg (fun h => h1 h.1)], (K1.out.trans' K6.out).qdk HB.out _ _ _ _ _ _⟩
theorem qks (x : GsD) (w : World) (hx : gsB x = true) :
  Calls prog 77 #[.agg #[.bool x.re.neg, .string x.re.n, .int .i64 x.re.e, .bool x.im.neg, .string x.im.n, .int .i64 x.im.e]] w fun en w' => en = .returned (.complex .f64 (qaQ x.re) (qaQ x.im)) ∧ Kept w w' := by
 have N1 := qh (fun W => qfN x.re W (qam.1 hx).1)
 have N2 := qh (fun W => qfN x.im W (qam.1 hx).2)
 generalize qaQ x.re = R at *
 generalize qaQ x.im = Q at *
 obtain ⟨⟨a0, a1, a2⟩, ⟨a3, a4, a5⟩⟩ := x
 simp only at N1 N2 ⊢
 clear hx
 go_enter func77, ntmps77
 go_upto_region 1 with fail
 obtain ⟨b, w1, hw, hb, B0, K1, HB⟩ := qa4 w (LC1 a0 a1 a2 a3 a4 a5) 28
 rw [← hw, ← hb]; clear hw hb
 obtain ⟨c0, c1, c2, c3, c4, c5⟩ := B0.out.c6
 have SK : Hid (∀ W, Kept w1 W → W.cell? ⟨b, 0, none⟩ = some (.bool a0) ∧ W.cell? ⟨b, 1, none⟩ = some (.string a1) ∧ W.cell? ⟨b, 2, none⟩ = some (.int .i64 a2) ∧ W.cell? ⟨b, 3, none⟩ = some (.bool a3) ∧ W.cell? ⟨b, 4, none⟩ = some (.string a4) ∧ W.cell? ⟨b, 5, none⟩ = some (.int .i64 a5)) := fun W h => (B0.out.kept h).c6
 have hS0 := SK.out _ (Below.refl _ w1).drew
 refine qab (fun W => W.cell? ⟨b, 0, none⟩ = some (.bool a0) ∧ W.cell? ⟨b, 1, none⟩ = some (.string a1) ∧ W.cell? ⟨b, 2, none⟩ = some (.int .i64 a2) ∧ W.cell? ⟨b, 3, none⟩ = some (.bool a3) ∧ W.cell? ⟨b, 4, none⟩ = some (.string a4) ∧ W.cell? ⟨b, 5, none⟩ = some (.int .i64 a5)) [7] (by kernel_rfl) ?_ (fun hHeld => ?_)
 ·assumption
 refine wS 0 3 ?_
 refine wS 1 4 ?_
 refine wS 3 6 ?_
 refine wS 4 7 ?_
 refine oS 2 fun K hK => ?_
 go_simp
 (refine (N1.out _).mono ?_; rintro e w3 ⟨rfl, hk3⟩; have K3 := qh (show Kept w1 w3 from (Below.refl _ w1).drew.trans (hk3.mono (Nat.le_refl _))); have hS3 := SK.out _ K3.out; clear hk3)
 refine hK.out _ _ ?_ (fun hHeld => ?_)
 ·assumption
 clear hK K
 try simp only [Act.put, tdy]
 refine oS 5 fun K hK => ?_
 go_simp
 (refine (N2.out _).mono ?_; rintro e w4 ⟨rfl, hk4⟩; have K4 := qh (K3.out.trans' hk4); have hS4 := SK.out _ K4.out; clear hk4)
 refine hK.out _ _ ?_ (fun hHeld => ?_)
 ·assumption
 clear hK K
 try simp only [Act.put, tdy]
 refine wS 6 9 ?_
 refine eS 7 fun K hK => ?_
 go_simp
 refine hK.out _ _ ?_
 clear hK K
 try simp only [Act.put, tdy]
 refine dS ?_ _
 go_wp2_with fail
 go_ret
 exact ⟨rfl, K1.out.trans' K4.out⟩
theorem qlc (x : GsD) (w : World) (hx : gsB x = true) :
  Calls prog 120 #[.agg #[.bool x.re.neg, .string x.re.n, .int .i64 x.re.e, .bool x.im.neg, .string x.im.n, .int .i64 x.im.e]] w fun en w' => en = .returned (.agg #[.bool (negS x.re).neg, .string (negS x.re).n, .int .i64 (negS x.re).e, .bool (negS x.im).neg, .string (negS x.im).n, .int .i64 (negS x.im).e]) ∧ Kept w w' := by
 have N1 := qh (fun W => qhj x.re W (qam.1 hx).1)
 have N2 := qh (fun W => qhj x.im W (qam.1 hx).2)
 generalize negS x.re = R at *
 generalize negS x.im = Q at *
 obtain ⟨⟨a0, a1, a2⟩, ⟨a3, a4, a5⟩⟩ := x
 obtain ⟨r0, r1, r2⟩ := R
 obtain ⟨q0, q1, q2⟩ := Q
 simp only at N1 N2 ⊢
 clear hx
 go_enter func120, ntmps120
 go_upto_region 1 with fail
 obtain ⟨b, w1, hw, hb, B0, B1, K1, HB⟩ := qa7 w (LC1 a0 a1 a2 a3 a4 a5) 28 ZL0 28
 rw [← hw, ← hb]; clear hw hb
 obtain ⟨c0, c1, c2, c3, c4, c5⟩ := B0.out.c6
 have SK : Hid (∀ W, Kept w1 W → W.cell? ⟨b, 0, none⟩ = some (.bool a0) ∧ W.cell? ⟨b, 1, none⟩ = some (.string a1) ∧ W.cell? ⟨b, 2, none⟩ = some (.int .i64 a2) ∧ W.cell? ⟨b, 3, none⟩ = some (.bool a3) ∧ W.cell? ⟨b, 4, none⟩ = some (.string a4) ∧ W.cell? ⟨b, 5, none⟩ = some (.int .i64 a5)) := fun W h => (B0.out.kept h).c6
 have hS0 := SK.out _ (Below.refl _ w1).drew
 refine qab (fun W => W.cell? ⟨b, 0, none⟩ = some (.bool a0) ∧ W.cell? ⟨b, 1, none⟩ = some (.string a1) ∧ W.cell? ⟨b, 2, none⟩ = some (.int .i64 a2) ∧ W.cell? ⟨b, 3, none⟩ = some (.bool a3) ∧ W.cell? ⟨b, 4, none⟩ = some (.string a4) ∧ W.cell? ⟨b, 5, none⟩ = some (.int .i64 a5)) [7] (by kernel_rfl) ?_ (fun hHeld => ?_)
 ·assumption
 refine wS 0 3 ?_
 refine wS 1 4 ?_
 refine wS 3 6 ?_
 refine wS 4 7 ?_
 refine oS 2 fun K hK => ?_
 go_simp
 (refine (N1.out _).mono ?_; rintro e w3 ⟨rfl, hk3⟩; have K3 := qh (show Kept w1 w3 from (Below.refl _ w1).drew.trans (hk3.mono (Nat.le_refl _))); have hS3 := SK.out _ K3.out; clear hk3)
 refine hK.out _ _ ?_ (fun hHeld => ?_)
 ·assumption
 clear hK K
 try simp only [Act.put, tdy]
 refine oS 5 fun K hK => ?_
 go_simp
 (refine (N2.out _).mono ?_; rintro e w4 ⟨rfl, hk4⟩; have K4 := qh (K3.out.trans' hk4); have hS4 := SK.out _ K4.out; clear hk4)
 refine hK.out _ _ ?_ (fun hHeld => ?_)
 ·assumption
 clear hK K
 try simp only [Act.put, tdy]
 refine wS 6 9 ?_
 obtain ⟨e0, e1, e2, e3, e4, e5⟩ := (B1.out.kept K4.out).c6
 obtain ⟨f0, f1, f2, f3, f4, f5⟩ := (B1.out.kept K4.out).f6
 refine eS 7 fun K hK => ?_
 go_simp
 refine hK.out _ _ ?_
 clear hK K
 try simp only [Act.put, tdy]
 refine dS ?_ _
 go_wp2_with fail
 exact bodyPost_ret (v := .agg #[.bool r0, .string r1, .int .i64 r2, .bool q0, .string q1, .int .i64 q2]) (by simp [results, results120, go_sem, e0, e1, e2, e3, e4, e5]) rfl ⟨rfl, (K1.out.trans' K4.out).qdk (by have := HB.out; omega) _ _ _ _ _ _⟩
theorem qlb (R Q : DyD × Int) (w : World) :
  Calls prog 158 #[.agg #[.bool R.1.neg, .string R.1.n, .int .i64 R.1.e], .int .i64 R.2, .agg #[.bool Q.1.neg, .string Q.1.n, .int .i64 Q.1.e], .int .i64 Q.2] w fun en w' => en = .returned (qaC (qaF R Q)) ∧ Kept w w' := by
 obtain ⟨v, hv⟩ : ∃ v : GsD × Int, v = qaF R Q := ⟨_, rfl⟩
 rw [← hv]
 have HV := qh hv
 clear hv
 obtain ⟨⟨r0, r1, r2⟩, r3⟩ := R
 obtain ⟨⟨q0, q1, q2⟩, q3⟩ := Q
 dsimp only
 go_enter func158, ntmps158
 go_upto_region 1 with fail
 obtain ⟨b, w1, hw, hb, B0, B1, B2, K1, HB⟩ := qct w (LC0 r0 r1 r2) 24 (LC0 q0 q1 q2) 24 ZL0 28
 rw [← hw, ← hb]; clear hw hb
 obtain ⟨c0, c1, c2⟩ := B0.out.c3
 obtain ⟨d0, d1, d2⟩ := B1.out.c3
 obtain ⟨e0, e1, e2, e3, e4, e5⟩ := B2.out.c6
 obtain ⟨f0, f1, f2, f3, f4, f5⟩ := B2.out.f6
 by_cases h1 : r3 = 0
 ·by_cases h2 : q3 = 0
  ·subst h1 h2
   go_wp2_with fail
   exact bodyPost_ret (v := qaC (⟨⟨r0, r1, r2⟩, ⟨q0, q1, q2⟩⟩, 0)) (by simp [results, results158, go_sem, e0, e1, e2, e3, e4, e5, qaC]) rfl ⟨by rw [HV.out]; rfl, K1.out.qdk (by have := HB.out; omega) _ _ _ _ _ _⟩
  ·subst h1
   have HQ := qh h2
   go_wp2_with fail
   exact bodyPost_ret (v := qaC (zG, 4)) (by simp [results, results158, go_sem, e0, e1, e2, e3, e4, e5, qaC, zG, zD]) rfl ⟨by rw [HV.out]; unfold qaF; rw [if_neg (fun h => HQ.out h.2)], K1.out.qdk (by have := HB.out; omega) _ _ _ _ _ _⟩
 ·have HR := qh h1
  go_wp2_with fail
  exact bodyPost_ret (v := qaC (zG, 4)) (by simp [results, results158, go_sem, e0, e1, e2, e3, e4, e5, qaC, zG, zD]) rfl ⟨by rw [HV.out]; unfold qaF; rw [if_neg (fun h => HR.out h.1)], K1.out.qdk (by have := HB.out; omega) _ _ _ _ _ _⟩
end
section
set_option maxHeartbeats 3200000
set_option maxRecDepth 100000
theorem ql9 (x y : GsD) (w : World) (hx : gsB x = true) (hy : gsB y = true) :
  Calls prog 119 #[.agg #[.bool x.re.neg, .string x.re.n, .int .i64 x.re.e, .bool x.im.neg, .string x.im.n, .int .i64 x.im.e], .agg #[.bool y.re.neg, .string y.re.n, .int .i64 y.re.e, .bool y.im.neg, .string y.im.n, .int .i64 y.im.e]] w fun en w' => en = .returned (qaC (qaF (qaS x.re y.re) (qaS x.im y.im))) ∧ Kept w w' := by
 have A1 := qh (fun W => qdX x.re y.re W (qam.1 hx).1 (qam.1 hy).1)
 have A2 := qh (fun W => qdX x.im y.im W (qam.1 hx).2 (qam.1 hy).2)
 generalize qaS x.re y.re = R at *
 generalize qaS x.im y.im = Q at *
 have BO := qh (fun W => qlb R Q W)
 generalize qaF R Q = V at *
 obtain ⟨⟨x0, x1, x2⟩, ⟨x3, x4, x5⟩⟩ := x
 obtain ⟨⟨y0, y1, y2⟩, ⟨y3, y4, y5⟩⟩ := y
 obtain ⟨⟨r0, r1, r2⟩, r3⟩ := R
 obtain ⟨⟨q0, q1, q2⟩, q3⟩ := Q
 simp only at A1 A2 BO ⊢
 clear hx hy
 go_enter func119, ntmps119
 go_upto_region 1 with fail
 obtain ⟨b, w1, hw, hb, B0, B1, B2, K1, HB⟩ := qct w (LC1 x0 x1 x2 x3 x4 x5) 28 (LC1 y0 y1 y2 y3 y4 y5) 28 ZL0 28
 rw [← hw, ← hb]; clear hw hb
 obtain ⟨c0, c1, c2, c3, c4, c5⟩ := B0.out.c6
 obtain ⟨d0, d1, d2, d3, d4, d5⟩ := B1.out.c6
 go_upto_region 2 with (go_at_call 91; (with_reducible refine (A1.out _).mono ?_); rintro e w3 ⟨rfl, hk3⟩)
 have K4 := qh (Kept.new hk3 (.cells (LC0 r0 r1 r2).toArray 24))
 have B3 := qh (Bx.new w3 (LC0 r0 r1 r2) 24 w3.heap.size rfl)
 obtain ⟨g, hg⟩ : ∃ g, g = w3.heap.size := ⟨_, rfl⟩
 rw [← hg] at B3 ⊢
 clear hg hk3
 generalize (w3.alloc (.cells (LC0 r0 r1 r2).toArray 24)) = w4 at *
 clear c0 c1 c2 c3 c4 c5 d0 d1 d2 d3 d4 d5
 obtain ⟨c0, c1, c2, c3, c4, c5⟩ := (B0.out.kept K4.out).c6
 obtain ⟨d0, d1, d2, d3, d4, d5⟩ := (B1.out.kept K4.out).c6
 go_upto_region 3 with (go_at_call 91; (with_reducible refine (A2.out _).mono ?_); rintro e w5 ⟨rfl, hk5⟩)
 have K6 := qh (Kept.new (K4.out.trans' hk5) (.cells (LC0 q0 q1 q2).toArray 24))
 have B4 := qh (Bx.new w5 (LC0 q0 q1 q2) 24 w5.heap.size rfl)
 replace B3 := qh ((B3.out.kept hk5).kept (Kept.new (Below.refl _ _) (.cells (LC0 q0 q1 q2).toArray 24)))
 obtain ⟨g2, hg⟩ : ∃ g, g = w5.heap.size := ⟨_, rfl⟩
 rw [← hg] at B4 ⊢
 clear hg hk5
 generalize (w5.alloc (.cells (LC0 q0 q1 q2).toArray 24)) = w6 at *
 clear c0 c1 c2 c3 c4 c5 d0 d1 d2 d3 d4 d5 A1 A2
 obtain ⟨c0, c1, c2⟩ := B3.out.c3
 obtain ⟨d0, d1, d2⟩ := B4.out.c3
 go_wp2_with (go_at_call 158; (with_reducible refine (BO.out _).mono ?_); rintro e w7 ⟨rfl, hk7⟩; have K7 := qh (K6.out.trans' hk7); obtain ⟨e0, e1, e2, e3, e4, e5⟩ := (B2.out.kept K7.out).c6; obtain ⟨f0, f1, f2, f3, f4, f5⟩ := (B2.out.kept K7.out).f6)
 exact bodyPost_ret (v := qaC V) (by simp [results, results119, go_sem, e0, e1, e2, e3, e4, e5, qaC]) rfl ⟨rfl, (K1.out.trans' K7.out).qdk (by have := HB.out; omega) _ _ _ _ _ _⟩
theorem qhs (x y : GsD) (w : World) (hx : gsB x = true) (hy : gsB y = true) :
  Calls prog 79 #[.agg #[.bool x.re.neg, .string x.re.n, .int .i64 x.re.e, .bool x.im.neg, .string x.im.n, .int .i64 x.im.e], .agg #[.bool y.re.neg, .string y.re.n, .int .i64 y.re.e, .bool y.im.neg, .string y.im.n, .int .i64 y.im.e]] w fun en w' => en = .returned (qaC (qej x y)) ∧ Kept w w' := by
 have NEG := qh (fun W => qlc y W hy)
 have ADD := qh (fun W => ql9 x ⟨negS y.re, negS y.im⟩ W hx (qam.2 ⟨qfi (qam.1 hy).1, qfi (qam.1 hy).2⟩))
 unfold qej qdG
 simp only at ADD
 generalize negS y.re = P at *
 generalize negS y.im = Q at *
 generalize qaF (qaS x.re P) (qaS x.im Q) = V at *
 obtain ⟨⟨x0, x1, x2⟩, ⟨x3, x4, x5⟩⟩ := x
 obtain ⟨⟨y0, y1, y2⟩, ⟨y3, y4, y5⟩⟩ := y
 simp only at NEG ADD ⊢
 clear hx hy
 go_enter func79, ntmps79
 go_upto_region 1 with fail
 obtain ⟨b, w1, hw, hb, B0, B1, B2, K1, HB⟩ := qct w (LC1 x0 x1 x2 x3 x4 x5) 28 (LC1 y0 y1 y2 y3 y4 y5) 28 ZL0 28
 rw [← hw, ← hb]; clear hw hb
 obtain ⟨c0, c1, c2, c3, c4, c5⟩ := B0.out.c6
 obtain ⟨d0, d1, d2, d3, d4, d5⟩ := B1.out.c6
 have SK : Hid (∀ W, Kept w1 W → (W.cell? ⟨b, 0, none⟩ = some (.bool x0) ∧ W.cell? ⟨b, 1, none⟩ = some (.string x1) ∧ W.cell? ⟨b, 2, none⟩ = some (.int .i64 x2) ∧ W.cell? ⟨b, 3, none⟩ = some (.bool x3) ∧ W.cell? ⟨b, 4, none⟩ = some (.string x4) ∧ W.cell? ⟨b, 5, none⟩ = some (.int .i64 x5)) ∧ W.cell? ⟨b + 1, 0, none⟩ = some (.bool y0) ∧ W.cell? ⟨b + 1, 1, none⟩ = some (.string y1) ∧ W.cell? ⟨b + 1, 2, none⟩ = some (.int .i64 y2) ∧ W.cell? ⟨b + 1, 3, none⟩ = some (.bool y3) ∧ W.cell? ⟨b + 1, 4, none⟩ = some (.string y4) ∧ W.cell? ⟨b + 1, 5, none⟩ = some (.int .i64 y5)) := fun W h => ⟨(B0.out.kept h).c6, (B1.out.kept h).c6⟩
 have hS0 := SK.out _ (Below.refl _ w1).drew
 refine qab (fun W => (W.cell? ⟨b, 0, none⟩ = some (.bool x0) ∧ W.cell? ⟨b, 1, none⟩ = some (.string x1) ∧ W.cell? ⟨b, 2, none⟩ = some (.int .i64 x2) ∧ W.cell? ⟨b, 3, none⟩ = some (.bool x3) ∧ W.cell? ⟨b, 4, none⟩ = some (.string x4) ∧ W.cell? ⟨b, 5, none⟩ = some (.int .i64 x5)) ∧ W.cell? ⟨b + 1, 0, none⟩ = some (.bool y0) ∧ W.cell? ⟨b + 1, 1, none⟩ = some (.string y1) ∧ W.cell? ⟨b + 1, 2, none⟩ = some (.int .i64 y2) ∧ W.cell? ⟨b + 1, 3, none⟩ = some (.bool y3) ∧ W.cell? ⟨b + 1, 4, none⟩ = some (.string y4) ∧ W.cell? ⟨b + 1, 5, none⟩ = some (.int .i64 y5)) [6,7] (by kernel_rfl) ?_ (fun hHeld => ?_)
 ·assumption
 refine wS 0 6 ?_
 refine wS 1 7 ?_
 refine oS 2 fun K hK => ?_
 go_simp
 (refine (NEG.out _).mono ?_; rintro e w4 ⟨rfl, hk4⟩; have K4 := qh (show Kept w1 w4 from (Below.refl _ w1).drew.trans (hk4.mono (Nat.le_refl _))); have hS4 := SK.out _ K4.out)
 refine hK.out _ _ ?_ (fun hHeld => ?_)
 ·assumption
 clear hK K
 try simp only [Act.put, tdy]
 refine oS 3 fun K hK => ?_
 go_simp
 (refine (ADD.out _).mono ?_; rintro e w5 ⟨rfl, hk5⟩; have K5 := qh (K4.out.trans' hk5); have hS5 := SK.out _ K5.out)
 refine hK.out _ _ ?_ (fun hHeld => ?_)
 ·assumption
 clear hK K
 try simp only [Act.put, tdy]
 refine wS 4 10 ?_
 refine wS 5 11 ?_
 obtain ⟨e0, e1, e2, e3, e4, e5⟩ := (B2.out.kept K5.out).c6
 obtain ⟨f0, f1, f2, f3, f4, f5⟩ := (B2.out.kept K5.out).f6
 refine eS 6 fun K hK => ?_
 go_simp
 refine hK.out _ _ ?_
 clear hK K
 try simp only [Act.put, tdy]
 refine eS 7 fun K hK => ?_
 go_simp
 refine hK.out _ _ ?_
 clear hK K
 try simp only [Act.put, tdy]
 refine dS ?_ _
 go_wp2_with fail
 exact bodyPost_ret (v := qaC V) (by simp [results, results79, go_sem, e0, e1, e2, e3, e4, e5, qaC]) rfl ⟨rfl, (K1.out.trans' K5.out).qdk (by have := HB.out; omega) _ _ _ _ _ _⟩
theorem qnV (p q r s : DyD) (w : World) (hp : qad p = true) (hq : qad q = true) (hr : qad r = true) (hs : qad s = true) :
  Calls prog 121 #[.agg #[.bool p.neg, .string p.n, .int .i64 p.e], .agg #[.bool q.neg, .string q.n, .int .i64 q.e], .agg #[.bool r.neg, .string r.n, .int .i64 r.e], .agg #[.bool s.neg, .string s.n, .int .i64 s.e], .bool false] w fun en w' => en = .returned (qaf (twoS (mulS p q) (mulS r s))) ∧ Kept w w' := by
 have M1 := qh (fun W => qfb p q W hp hq)
 have M2 := qh (fun W => qfb r s W hr hs)
 have h1 := qdm p q
 have h2 := qdm r s
 generalize mulS p q = R at *
 generalize mulS r s = Q at *
 have ADD := qh (fun W => qdX R.1 Q.1 W h1 h2)
 have HG := qh (show R.2 = 0 → Q.2 = 0 → qaS R.1 Q.1 = twoS R Q from fun a b => by unfold twoS; rw [if_pos ⟨a, b⟩])
 have HN := qh (show ¬ (R.2 = 0 ∧ Q.2 = 0) → twoS R Q = (zD, 4) from fun a => by unfold twoS; rw [if_neg a])
 generalize qaS R.1 Q.1 = V at *
 generalize twoS R Q = V2 at *
 obtain ⟨p0, p1, p2⟩ := p
 obtain ⟨q0, q1, q2⟩ := q
 obtain ⟨r0, r1, r2⟩ := r
 obtain ⟨s0, s1, s2⟩ := s
 obtain ⟨⟨m0, m1, m2⟩, m3⟩ := R
 obtain ⟨⟨n0, n1, n2⟩, n3⟩ := Q
 simp only at M1 M2 ADD HG HN ⊢
 clear hp hq hr hs h1 h2
 go_enter func121, ntmps121
 go_upto_region 1 with fail
 obtain ⟨b, w1, hw, hb, B0, B1, B2, B3, B4, K1, HB⟩ := qo9 w (LC0 p0 p1 p2) 24 (LC0 q0 q1 q2) 24 (LC0 r0 r1 r2) 24 (LC0 s0 s1 s2) 24 (LC0 false ⟨#[]⟩ 0) 24
 rw [← hw, ← hb]; clear hw hb
 obtain ⟨c0, c1, c2⟩ := B0.out.c3
 obtain ⟨d0, d1, d2⟩ := B1.out.c3
 go_upto_region 2 with (go_at_call 127; (with_reducible refine (M1.out _).mono ?_); rintro e w3 ⟨rfl, hk3⟩)
 have K4 := qh (Kept.new hk3 (.cells (LC0 m0 m1 m2).toArray 24))
 have B5 := qh (Bx.new w3 (LC0 m0 m1 m2) 24 w3.heap.size rfl)
 obtain ⟨g, hg⟩ : ∃ g, g = w3.heap.size := ⟨_, rfl⟩
 rw [← hg] at B5 ⊢
 clear hg hk3
 generalize (w3.alloc (.cells (LC0 m0 m1 m2).toArray 24)) = w4 at *
 clear c0 c1 c2 d0 d1 d2
 obtain ⟨c0, c1, c2⟩ := (B2.out.kept K4.out).c3
 obtain ⟨d0, d1, d2⟩ := (B3.out.kept K4.out).c3
 go_upto_region 3 with (go_at_call 127; (with_reducible refine (M2.out _).mono ?_); rintro e w5 ⟨rfl, hk5⟩)
 have K6 := qh (Kept.new (K4.out.trans' hk5) (.cells (LC0 n0 n1 n2).toArray 24))
 have B6 := qh (Bx.new w5 (LC0 n0 n1 n2) 24 w5.heap.size rfl)
 replace B5 := qh ((B5.out.kept hk5).kept (Kept.new (Below.refl _ _) (.cells (LC0 n0 n1 n2).toArray 24)))
 obtain ⟨g2, hg⟩ : ∃ g, g = w5.heap.size := ⟨_, rfl⟩
 rw [← hg] at B6 ⊢
 clear hg hk5
 generalize (w5.alloc (.cells (LC0 n0 n1 n2).toArray 24)) = w6 at *
 clear c0 c1 c2 d0 d1 d2 M1 M2
 obtain ⟨e0, e1, e2⟩ := (B4.out.kept K6.out).c3
 obtain ⟨f0, f1, f2⟩ := (B4.out.kept K6.out).f3
 by_cases h1 : m3 = 0
 ·by_cases h2 : n3 = 0
  ·have HV := qh (HG.out h1 h2)
   subst h1 h2
   obtain ⟨c0, c1, c2⟩ := B5.out.c3
   obtain ⟨d0, d1, d2⟩ := B6.out.c3
   clear e0 e1 e2 f0 f1 f2
   go_wp2_with (go_at_call 91; (with_reducible refine (ADD.out _).mono ?_); rintro e w7 ⟨rfl, hk7⟩; have K7 := qh (K6.out.trans' hk7); obtain ⟨e0, e1, e2⟩ := (B4.out.kept K7.out).c3; obtain ⟨f0, f1, f2⟩ := (B4.out.kept K7.out).f3)
   exact bodyPost_ret (v := qaf V) (by simp [results, results121, go_sem, e0, e1, e2, qaf]) rfl ⟨by rw [HV.out], (K1.out.trans' K7.out).qaL (by have := HB.out; omega) _ _ _⟩
  ·have HV := qh (HN.out (fun h => h2 h.2))
   subst h1
   go_wp2_with fail
   exact bodyPost_ret (v := qaf (zD, 4)) (by simp [results, results121, go_sem, e0, e1, e2, qaf, zD]) rfl ⟨by rw [HV.out], (K1.out.trans' K6.out).qaL (by have := HB.out; omega) _ _ _⟩
 ·have HV := qh (HN.out (fun h => h1 h.1))
  go_wp2_with fail
  exact bodyPost_ret (v := qaf (zD, 4)) (by simp [results, results121, go_sem, e0, e1, e2, qaf, zD]) rfl ⟨by rw [HV.out], (K1.out.trans' K6.out).qaL (by have := HB.out; omega) _ _ _⟩
theorem qhh (x : GsD) (w : World) (hx : gsB x = true) :
  Calls prog 80 #[.agg #[.bool x.re.neg, .string x.re.n, .int .i64 x.re.e, .bool x.im.neg, .string x.im.n, .int .i64 x.im.e]] w fun en w' => en = .returned (qaf (qbX x)) ∧ Kept w w' := by
 have TW := qh (fun W => qnV x.re x.re x.im x.im W (qam.1 hx).1 (qam.1 hx).1 (qam.1 hx).2 (qam.1 hx).2)
 unfold qbX
 generalize twoS (mulS x.re x.re) (mulS x.im x.im) = R at *
 obtain ⟨⟨x0, x1, x2⟩, ⟨x3, x4, x5⟩⟩ := x
 simp only at TW ⊢
 clear hx
 go_enter func80, ntmps80
 go_upto_region 1 with fail
 obtain ⟨b, w1, hw, hb, B0, B1, K1, HB⟩ := qa7 w (LC1 x0 x1 x2 x3 x4 x5) 28 (LC0 false ⟨#[]⟩ 0) 24
 rw [← hw, ← hb]; clear hw hb
 obtain ⟨c0, c1, c2, c3, c4, c5⟩ := B0.out.c6
 go_wp2_with (go_at_call 121; (with_reducible refine (TW.out _).mono ?_); rintro e w3 ⟨rfl, hk3⟩; obtain ⟨d0, d1, d2⟩ := (B1.out.kept hk3).c3; obtain ⟨f0, f1, f2⟩ := (B1.out.kept hk3).f3; have K3 := qh hk3)
 exact bodyPost_ret (v := qaf R) (by simp [results, results80, go_sem, d0, d1, d2, qaf]) rfl ⟨rfl, (K1.out.trans' K3.out).qaL (by have := HB.out; omega) _ _ _⟩
end
end Go.Proofs.YtfdnledkcongaaaGreatDoor
