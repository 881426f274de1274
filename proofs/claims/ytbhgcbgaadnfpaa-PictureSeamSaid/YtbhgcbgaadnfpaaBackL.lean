/- The law PictureBack, walked. -/
import Derived.Test.YtbhgcbgaadnfpaaPicY
import Derived.Test.YtbhgcbgaadnfpaaPicZ
namespace Go.Proofs.Ytbhgcbgaadnfpaa
open Go.RowKit

/-- Three cells of a block. -/
def Box (W : World) (b : Nat) (x y z : Value) : Prop := W.cell? ⟨b, 0, none⟩ = some x ∧ W.cell? ⟨b, 1, none⟩ = some y ∧ W.cell? ⟨b, 2, none⟩ = some z
theorem Box.kept {W W' : World} {b : Nat} {x y z : Value} (h : Box W b x y z) (hk : Kept W W') : Box W' b x y z :=
  ⟨(hk.cells _ _ (lt_of_cell h.1)).trans h.1, (hk.cells _ _ (lt_of_cell h.1)).trans h.2.1, (hk.cells _ _ (lt_of_cell h.1)).trans h.2.2⟩
theorem Box.alloc {W : World} {b : Nat} {x y z : Value} (h : Box W b x y z) (o : Obj) : Box (W.alloc o) b x y z := h.kept ((Below.refl _ _).alloc (Nat.le_refl _) o)
theorem Box.new (W : World) (x y z : Value) (t : TypeId) (b : Nat) (hb : b = W.heap.size) : Box (W.alloc (.cells #[x, y, z] t)) b x y z := by
  subst hb
  refine ⟨?_, ?_, ?_⟩ <;> simp

def writeT (a d : Int) (n : Nat) (g : List UInt8) : ByteArray := if mayB a d n then ⟨(writeL a.toNat d.toNat g).toArray⟩ else ⟨#[]⟩
theorem write_any (a d : Int) (A : Option Addr) (n c : Nat) (g : List UInt8) (w : World) (ha : -9223372036854775808 ≤ a) (ha' : a ≤ 9223372036854775807) (hd : -9223372036854775808 ≤ d) (hd' : d ≤ 9223372036854775807) (hn : n ≤ 9223372036854775807) (hnc : n ≤ c) (hl : g.length = n) (hr : Row w A (bytesV g)) :
    Calls Try.prog 13 #[.agg #[.int .i64 a, .int .i64 d, .slice A n c]] w fun e w' => e = .returned (.tuple #[.string (writeT a d n g), .int .i64 (checkI a d n)]) ∧ Kept w w' := by
  cases hm : mayB a d n with
  | true =>
    have := write_good a d A n c g w hm hnc hl hr
    simpa [writeT, checkI, hm] using this
  | false =>
    have := write_bad a d A n c w ha ha' hd hd' hn hm
    simpa [writeT, checkI, hm] using this

theorem sameB_refl (a d : Int) (g : List UInt8) : sameB a d a d g g = true := by simp [sameB]
theorem write_same {a d a' d' : Int} {n n' : Nat} {g g' : List UInt8} (hl : g.length = n) (hl' : g'.length = n') (h : mayB a d n = true) (h' : mayB a' d' n' = true) :
    ((writeT a d n g).data.toList == (writeT a' d' n' g').data.toList) = sameB a d a' d' g g' := by
  have b := mayB_bounds h
  have b' := mayB_bounds h'
  have e1 : (a.toNat : Int) = a := by omega
  have e2 : (d.toNat : Int) = d := by omega
  have e3 : (a'.toNat : Int) = a' := by omega
  have e4 : (d'.toNat : Int) = d' := by omega
  rw [Bool.eq_iff_iff]
  simp only [writeT, h, h', if_true, beq_iff_eq, sameB, Bool.and_eq_true]
  constructor
  · intro he
    have := writeL_inj (a := a.toNat) (d := d.toNat) (g := g) (by rw [e1, e2, hl]; exact h) (by rw [e3, e4, hl']; exact h') he
    exact ⟨by omega, by omega, this.2.2⟩
  · rintro ⟨rfl, rfl, rfl⟩
    rfl

set_option maxRecDepth 100000 in
set_option maxHeartbeats 1600000 in
theorem back_no (a1 d1 a2 d2 : Int) (A1 A2 : Option Addr) (n1 c1 n2 c2 : Nat) (g1 g2 : List UInt8) (s : ByteArray) (w : World)
    (ha1 : -9223372036854775808 ≤ a1) (ha1' : a1 ≤ 9223372036854775807) (hd1 : -9223372036854775808 ≤ d1) (hd1' : d1 ≤ 9223372036854775807) (ha2 : -9223372036854775808 ≤ a2) (ha2' : a2 ≤ 9223372036854775807) (hd2 : -9223372036854775808 ≤ d2) (hd2' : d2 ≤ 9223372036854775807)
    (hn1 : n1 ≤ 9223372036854775807) (hn2 : n2 ≤ 9223372036854775807) (hc1 : n1 ≤ c1) (hc2 : n2 ≤ c2) (hl1 : g1.length = n1) (hl2 : g2.length = n2) (hr1 : Row w A1 (bytesV g1)) (hr2 : Row w A2 (bytesV g2)) (hsm : s.size ≤ maxLen) (hm1 : mayB a1 d1 n1 = false) :
    Calls Try.prog 4 #[.agg #[.int .i64 a1, .int .i64 d1, .slice A1 n1 c1], .agg #[.int .i64 a2, .int .i64 d2, .slice A2 n2 c2], .string s] w fun e w' => e = .returned (.bool true) ∧ Kept w w' := by
  have CW1 : Hid (∀ W, Row W A1 (bytesV g1) → Calls Try.prog 13 #[.agg #[.int .i64 a1, .int .i64 d1, .slice A1 n1 c1]] W fun e w' => e = .returned (.tuple #[.string ⟨#[]⟩, .int .i64 290]) ∧ Kept W w') := fun W hW => by
    have h := write_any a1 d1 A1 n1 c1 g1 W ha1 ha1' hd1 hd1' hn1 hc1 hl1 hW
    simpa [writeT, checkI, hm1] using h
  have CW2 : Hid (∀ W, Row W A2 (bytesV g2) → Calls Try.prog 13 #[.agg #[.int .i64 a2, .int .i64 d2, .slice A2 n2 c2]] W fun e w' => e = .returned (.tuple #[.string (writeT a2 d2 n2 g2), .int .i64 (checkI a2 d2 n2)]) ∧ Kept W w') := fun W hW => by
    have h := write_any a2 d2 A2 n2 c2 g2 W ha2 ha2' hd2 hd2' hn2 hc2 hl2 hW
    exact h
  have CC1 : Hid (∀ W, Calls Try.prog 20 #[.agg #[.int .i64 a1, .int .i64 d1, .slice A1 n1 c1]] W fun e w' => e = .returned (.int .i64 290) ∧ Kept W w') := fun W => by
    have h := check_any a1 d1 A1 n1 c1 W ha1 ha1' hd1 hd1' hn1
    simpa [checkI, hm1] using h
  have ROWS := hide (And.intro hr1 hr2)
  clear ha1 ha1' hd1 hd1' ha2 ha2' hd2 hd2' hn1 hn2 hc1 hc2 hl1 hl2 hr1 hr2
  go_enter Try.func4, Try.ntmps4
  go_wp2_with fail
  refine (CW1.out _ (ROWS.out.1.alloc _ |>.alloc _)).mono ?_
  rintro e w1 ⟨rfl, hk1⟩
  have K1 := hide ((((Below.refl _ w).alloc (Nat.le_refl _) _).alloc (by simp) _).trans (hk1.mono (by simp; omega)))
  have P1 : Box w1 w.heap.size (.int .i64 a1) (.int .i64 d1) (.slice A1 n1 c1) := ((Box.new w _ _ _ 24 _ rfl).alloc _).kept hk1
  have Q1 : Box w1 (w.heap.size + 1) (.int .i64 a2) (.int .i64 d2) (.slice A2 n2 c2) := (Box.new _ _ _ _ 24 _ (by simp)).kept hk1
  have HP1 := hide P1
  have HQ1 := hide Q1
  obtain ⟨p0, p1, p2⟩ := P1
  obtain ⟨q0, q1, q2⟩ := Q1
  clear hk1
  go_wp2_with fail
  refine (CW2.out _ (ROWS.out.2.kept K1.out)).mono ?_
  rintro e w2 ⟨rfl, hk2⟩
  have K2 := hide (K1.out.trans (hk2.mono K1.out.size))
  have P2 := HP1.out.kept hk2
  have Q2 := HQ1.out.kept hk2
  have HP2 := hide P2
  have HQ2 := hide Q2
  clear p0 p1 p2 q0 q1 q2 HP1 HQ1 K1
  obtain ⟨p0, p1, p2⟩ := P2
  obtain ⟨q0, q1, q2⟩ := Q2
  clear hk2
  go_wp2_with fail
  refine (CC1.out _).mono ?_
  rintro e w3 ⟨rfl, hk3⟩
  have K3 := hide (K2.out.trans (hk3.mono K2.out.size))
  have P3' := HP2.out.kept hk3
  have Q3' := HQ2.out.kept hk3
  have HP3 := hide P3'
  have HQ3 := hide Q3'
  clear p0 p1 p2 q0 q1 q2 HP2 HQ2 K2
  obtain ⟨p0, p1, p2⟩ := P3'
  obtain ⟨q0, q1, q2⟩ := Q3'
  clear hk3
  go_wp2_with fail
  have HK := K3
  --- tail from world w3 (heap facts: HK : Kept w w3)
  have rs := read_any s w3 hsm
  generalize hrs : readS s.data.toList = rr at rs
  cases rr with
  | none =>
    refine rs.mono ?_
    rintro e wr ⟨rfl, hkr⟩
    have HKr := hide (HK.out.trans (hkr.mono HK.out.size))
    clear hkr
    go_wp2_with (go_at_call 19; refine (awake_any _).mono ?_; rintro e wz ⟨rfl, hkz⟩)
    go_ret
    exact ⟨rfl, (HKr.out.alloc HKr.out.size _).trans (hkz.mono (by have := HKr.out.size; simp; omega))⟩
  | some t =>
    obtain ⟨ra, rd, rg⟩ := t
    refine rs.mono ?_
    rintro e wr ⟨v, rfl, ho, hkr⟩
    obtain ⟨A, c, rfl, hnc, hcm, hrow, -, -⟩ := ho.form
    have HKr := hide (HK.out.trans (hkr.mono HK.out.size))
    obtain ⟨hmr, hwl⟩ := readS_some hrs
    have cw := write_good ra rd A rg.length c rg (wr.alloc (.cells #[.int .i64 ra, .int .i64 rd, .slice A rg.length c] 24)) hmr hnc rfl (hrow.alloc _)
    rw [show ((ra : Int)).toNat = ra from rfl, show ((rd : Int)).toNat = rd from rfl, hwl, show (⟨s.data.toList.toArray⟩ : ByteArray) = s from by simp] at cw
    have CWR := hide cw
    clear cw hkr ho hwl hmr hrow hrs
    go_wp2_with (first
      | (go_at_call 13; refine CWR.out.mono ?_; rintro e wy ⟨rfl, hky⟩)
      | (go_at_call 19; refine (awake_any _).mono ?_; rintro e wz ⟨rfl, hkz⟩))
    go_ret
    exact ⟨rfl, ((HKr.out.alloc HKr.out.size _).trans (hky.mono (by have := HKr.out.size; simp; omega))).trans (hkz.mono (by have := HKr.out.size; have := hky.size; simp at this; omega))⟩
set_option maxRecDepth 100000 in
set_option maxHeartbeats 1600000 in
theorem back_one (a1 d1 a2 d2 : Int) (A1 A2 : Option Addr) (n1 c1 n2 c2 : Nat) (g1 g2 : List UInt8) (s : ByteArray) (w : World)
    (ha1 : -9223372036854775808 ≤ a1) (ha1' : a1 ≤ 9223372036854775807) (hd1 : -9223372036854775808 ≤ d1) (hd1' : d1 ≤ 9223372036854775807) (ha2 : -9223372036854775808 ≤ a2) (ha2' : a2 ≤ 9223372036854775807) (hd2 : -9223372036854775808 ≤ d2) (hd2' : d2 ≤ 9223372036854775807)
    (hn1 : n1 ≤ 9223372036854775807) (hn2 : n2 ≤ 9223372036854775807) (hc1 : n1 ≤ c1) (hc2 : n2 ≤ c2) (hl1 : g1.length = n1) (hl2 : g2.length = n2) (hr1 : Row w A1 (bytesV g1)) (hr2 : Row w A2 (bytesV g2)) (hsm : s.size ≤ maxLen) (hm1 : mayB a1 d1 n1 = true) (hm2 : mayB a2 d2 n2 = false) :
    Calls Try.prog 4 #[.agg #[.int .i64 a1, .int .i64 d1, .slice A1 n1 c1], .agg #[.int .i64 a2, .int .i64 d2, .slice A2 n2 c2], .string s] w fun e w' => e = .returned (.bool true) ∧ Kept w w' := by
  obtain ⟨b1, b2, b3, b4, b5, b6, b7⟩ := mayB_bounds hm1
  obtain ⟨t1, ht1⟩ : ∃ t, t = writeT a1 d1 n1 g1 := ⟨_, rfl⟩
  have ht1' : t1 = ⟨(writeL a1.toNat d1.toNat g1).toArray⟩ := by rw [ht1]; simp [writeT, hm1]
  have hmN : mayB a1.toNat d1.toNat g1.length = true := by rw [Int.toNat_of_nonneg (by omega), Int.toNat_of_nonneg (by omega), hl1]; exact hm1
  have hle1 : (t1.size : Int) ≤ 12 + 2 * n1 := by
    have h := writeL_le hmN
    have h2 : t1.size = (writeL a1.toNat d1.toNat g1).length := by rw [ht1']; exact List.size_toArray
    omega
  have hle0 : ¬ (12 + 2 * (n1 : Int)) < (t1.size : Int) := by omega
  have CR1 : Hid (∀ W, Calls Try.prog 15 #[.string t1] W fun e w' => ∃ v, e = .returned (.tuple #[.agg #[.int .i64 a1, .int .i64 d1, v], .int .i64 0]) ∧ Own w' W.heap.size 1 v n1 (bytesV g1) ∧ Kept W w') := fun W => by
    have h := read_any t1 W (by unfold maxLen; omega)
    rw [show readS t1.data.toList = some (a1.toNat, d1.toNat, g1) by rw [ht1']; exact readS_writeL hmN] at h
    refine h.mono fun e w' h' => ?_
    obtain ⟨v, e1, e2, e3⟩ := h'
    rw [Int.toNat_of_nonneg (by omega), Int.toNat_of_nonneg (by omega)] at e1
    rw [hl1] at e2
    exact ⟨v, e1, e2, e3⟩
  have CS11 : Hid (∀ W A c, Row W A (bytesV g1) → Row W A1 (bytesV g1) → Calls Try.prog 21 #[.agg #[.int .i64 a1, .int .i64 d1, .slice A n1 c], .agg #[.int .i64 a1, .int .i64 d1, .slice A1 n1 c1]] W fun e w' => e = .returned (.bool true) ∧ Kept W w') := fun W A c hA hA1 => by
    have h := same_any a1 d1 a1 d1 A A1 n1 c n1 c1 g1 g1 W hn1 hl1 hl1 hA hA1
    rwa [sameB_refl] at h
  clear hle1 ht1'
  have CW1 : Hid (∀ W, Row W A1 (bytesV g1) → Calls Try.prog 13 #[.agg #[.int .i64 a1, .int .i64 d1, .slice A1 n1 c1]] W fun e w' => e = .returned (.tuple #[.string t1, .int .i64 0]) ∧ Kept W w') := fun W hW => by
    have h := write_any a1 d1 A1 n1 c1 g1 W ha1 ha1' hd1 hd1' hn1 hc1 hl1 hW
    simpa [checkI, hm1, ← ht1] using h
  have CW2 : Hid (∀ W, Row W A2 (bytesV g2) → Calls Try.prog 13 #[.agg #[.int .i64 a2, .int .i64 d2, .slice A2 n2 c2]] W fun e w' => e = .returned (.tuple #[.string ⟨#[]⟩, .int .i64 290]) ∧ Kept W w') := fun W hW => by
    have h := write_any a2 d2 A2 n2 c2 g2 W ha2 ha2' hd2 hd2' hn2 hc2 hl2 hW
    simpa [writeT, checkI, hm2] using h
  have CC1 : Hid (∀ W, Calls Try.prog 20 #[.agg #[.int .i64 a1, .int .i64 d1, .slice A1 n1 c1]] W fun e w' => e = .returned (.int .i64 0) ∧ Kept W w') := fun W => by
    have h := check_any a1 d1 A1 n1 c1 W ha1 ha1' hd1 hd1' hn1
    simpa [checkI, hm1] using h
  clear ht1 hm2
  clear hm1 hmN b1 b2 b3 b4 b5
  have ROWS := hide (And.intro hr1 hr2)
  clear ha1 ha1' hd1 hd1' ha2 ha2' hd2 hd2' hn1 hn2 hc1 hc2 hl1 hl2 hr1 hr2
  go_enter Try.func4, Try.ntmps4
  go_wp2_with fail
  refine (CW1.out _ (ROWS.out.1.alloc _ |>.alloc _)).mono ?_
  rintro e w1 ⟨rfl, hk1⟩
  have K1 := hide ((((Below.refl _ w).alloc (Nat.le_refl _) _).alloc (by simp) _).trans (hk1.mono (by simp; omega)))
  have P1 : Box w1 w.heap.size (.int .i64 a1) (.int .i64 d1) (.slice A1 n1 c1) := ((Box.new w _ _ _ 24 _ rfl).alloc _).kept hk1
  have Q1 : Box w1 (w.heap.size + 1) (.int .i64 a2) (.int .i64 d2) (.slice A2 n2 c2) := (Box.new _ _ _ _ 24 _ (by simp)).kept hk1
  have HP1 := hide P1
  have HQ1 := hide Q1
  obtain ⟨p0, p1, p2⟩ := P1
  obtain ⟨q0, q1, q2⟩ := Q1
  clear hk1
  go_wp2_with fail
  refine (CW2.out _ (ROWS.out.2.kept K1.out)).mono ?_
  rintro e w2 ⟨rfl, hk2⟩
  have K2 := hide (K1.out.trans (hk2.mono K1.out.size))
  have P2 := HP1.out.kept hk2
  have Q2 := HQ1.out.kept hk2
  have HP2 := hide P2
  have HQ2 := hide Q2
  clear p0 p1 p2 q0 q1 q2 HP1 HQ1 K1
  obtain ⟨p0, p1, p2⟩ := P2
  obtain ⟨q0, q1, q2⟩ := Q2
  clear hk2
  go_wp2_with fail
  refine (CC1.out _).mono ?_
  rintro e w3 ⟨rfl, hk3⟩
  have K3 := hide (K2.out.trans (hk3.mono K2.out.size))
  have P3' := HP2.out.kept hk3
  have Q3' := HQ2.out.kept hk3
  have HP3 := hide P3'
  have HQ3 := hide Q3'
  clear p0 p1 p2 q0 q1 q2 HP2 HQ2 K2
  obtain ⟨p0, p1, p2⟩ := P3'
  obtain ⟨q0, q1, q2⟩ := Q3'
  clear hk3
  go_wp2_with fail
  refine (CR1.out _).mono ?_
  rintro e w4 ⟨v, rfl, ho, hk4⟩
  obtain ⟨A, c, rfl, hnc, hcm, hrow, -, -⟩ := ho.form
  have K4 := hide (K3.out.trans (hk4.mono K3.out.size))
  have P4 : Box (w4.alloc (.cells #[.int .i64 a1, .int .i64 d1, .slice A n1 c] 24)) w.heap.size (.int .i64 a1) (.int .i64 d1) (.slice A1 n1 c1) := (HP3.out.kept hk4).alloc _
  have Q4 : Box (w4.alloc (.cells #[.int .i64 a1, .int .i64 d1, .slice A n1 c] 24)) (w.heap.size + 1) (.int .i64 a2) (.int .i64 d2) (.slice A2 n2 c2) := (HQ3.out.kept hk4).alloc _
  have HP4 := hide P4
  have HQ4 := hide Q4
  have HR4 := hide hrow
  obtain ⟨p0, p1, p2⟩ := HP3.out.kept hk4
  obtain ⟨q0, q1, q2⟩ := HQ3.out.kept hk4
  have hlt4 : w.heap.size < w4.heap.size := lt_of_cell p0
  have hlt4' : w.heap.size + 1 < w4.heap.size := lt_of_cell q0
  clear HP3 HQ3 K3 hk4 ho hrow hnc hcm
  go_wp2_with fail
  refine (CS11.out _ _ _ (HR4.out.alloc _) ((ROWS.out.1.kept K4.out).alloc _)).mono ?_
  rintro e w5 ⟨rfl, hk5⟩
  have K5 := hide ((K4.out.alloc K4.out.size _).trans (hk5.mono (by have := K4.out.size; simp; omega)))
  have P5 := HP4.out.kept hk5
  have Q5 := HQ4.out.kept hk5
  have HP5 := hide P5
  have HQ5 := hide Q5
  clear p0 p1 p2 q0 q1 q2 HP4 HQ4 K4 hk5 HR4 hlt4 hlt4'
  obtain ⟨p0, p1, p2⟩ := P5
  obtain ⟨q0, q1, q2⟩ := Q5
  go_wp2_with fail
  have HK := K5
  --- tail from world w5 (heap facts: HK : Kept w w5)
  have rs := read_any s w5 hsm
  generalize hrs : readS s.data.toList = rr at rs
  cases rr with
  | none =>
    refine rs.mono ?_
    rintro e wr ⟨rfl, hkr⟩
    have HKr := hide (HK.out.trans (hkr.mono HK.out.size))
    clear hkr
    go_wp2_with (go_at_call 19; refine (awake_any _).mono ?_; rintro e wz ⟨rfl, hkz⟩)
    go_ret
    exact ⟨rfl, (HKr.out.alloc HKr.out.size _).trans (hkz.mono (by have := HKr.out.size; simp; omega))⟩
  | some t =>
    obtain ⟨ra, rd, rg⟩ := t
    refine rs.mono ?_
    rintro e wr ⟨v, rfl, ho, hkr⟩
    obtain ⟨A, c, rfl, hnc, hcm, hrow, -, -⟩ := ho.form
    have HKr := hide (HK.out.trans (hkr.mono HK.out.size))
    obtain ⟨hmr, hwl⟩ := readS_some hrs
    have cw := write_good ra rd A rg.length c rg (wr.alloc (.cells #[.int .i64 ra, .int .i64 rd, .slice A rg.length c] 24)) hmr hnc rfl (hrow.alloc _)
    rw [show ((ra : Int)).toNat = ra from rfl, show ((rd : Int)).toNat = rd from rfl, hwl, show (⟨s.data.toList.toArray⟩ : ByteArray) = s from by simp] at cw
    have CWR := hide cw
    clear cw hkr ho hwl hmr hrow hrs
    go_wp2_with (first
      | (go_at_call 13; refine CWR.out.mono ?_; rintro e wy ⟨rfl, hky⟩)
      | (go_at_call 19; refine (awake_any _).mono ?_; rintro e wz ⟨rfl, hkz⟩))
    go_ret
    exact ⟨rfl, ((HKr.out.alloc HKr.out.size _).trans (hky.mono (by have := HKr.out.size; simp; omega))).trans (hkz.mono (by have := HKr.out.size; have := hky.size; simp at this; omega))⟩
set_option maxRecDepth 100000 in
set_option maxHeartbeats 1600000 in
theorem back_two (a1 d1 a2 d2 : Int) (A1 A2 : Option Addr) (n1 c1 n2 c2 : Nat) (g1 g2 : List UInt8) (s : ByteArray) (w : World)
    (ha1 : -9223372036854775808 ≤ a1) (ha1' : a1 ≤ 9223372036854775807) (hd1 : -9223372036854775808 ≤ d1) (hd1' : d1 ≤ 9223372036854775807) (ha2 : -9223372036854775808 ≤ a2) (ha2' : a2 ≤ 9223372036854775807) (hd2 : -9223372036854775808 ≤ d2) (hd2' : d2 ≤ 9223372036854775807)
    (hn1 : n1 ≤ 9223372036854775807) (hn2 : n2 ≤ 9223372036854775807) (hc1 : n1 ≤ c1) (hc2 : n2 ≤ c2) (hl1 : g1.length = n1) (hl2 : g2.length = n2) (hr1 : Row w A1 (bytesV g1)) (hr2 : Row w A2 (bytesV g2)) (hsm : s.size ≤ maxLen) (hm1 : mayB a1 d1 n1 = true) (hm2 : mayB a2 d2 n2 = true) :
    Calls Try.prog 4 #[.agg #[.int .i64 a1, .int .i64 d1, .slice A1 n1 c1], .agg #[.int .i64 a2, .int .i64 d2, .slice A2 n2 c2], .string s] w fun e w' => e = .returned (.bool true) ∧ Kept w w' := by
  obtain ⟨b1, b2, b3, b4, b5, b6, b7⟩ := mayB_bounds hm1
  obtain ⟨t1, ht1⟩ : ∃ t, t = writeT a1 d1 n1 g1 := ⟨_, rfl⟩
  have ht1' : t1 = ⟨(writeL a1.toNat d1.toNat g1).toArray⟩ := by rw [ht1]; simp [writeT, hm1]
  have hmN : mayB a1.toNat d1.toNat g1.length = true := by rw [Int.toNat_of_nonneg (by omega), Int.toNat_of_nonneg (by omega), hl1]; exact hm1
  have hle1 : (t1.size : Int) ≤ 12 + 2 * n1 := by
    have h := writeL_le hmN
    have h2 : t1.size = (writeL a1.toNat d1.toNat g1).length := by rw [ht1']; exact List.size_toArray
    omega
  have hle0 : ¬ (12 + 2 * (n1 : Int)) < (t1.size : Int) := by omega
  have CR1 : Hid (∀ W, Calls Try.prog 15 #[.string t1] W fun e w' => ∃ v, e = .returned (.tuple #[.agg #[.int .i64 a1, .int .i64 d1, v], .int .i64 0]) ∧ Own w' W.heap.size 1 v n1 (bytesV g1) ∧ Kept W w') := fun W => by
    have h := read_any t1 W (by unfold maxLen; omega)
    rw [show readS t1.data.toList = some (a1.toNat, d1.toNat, g1) by rw [ht1']; exact readS_writeL hmN] at h
    refine h.mono fun e w' h' => ?_
    obtain ⟨v, e1, e2, e3⟩ := h'
    rw [Int.toNat_of_nonneg (by omega), Int.toNat_of_nonneg (by omega)] at e1
    rw [hl1] at e2
    exact ⟨v, e1, e2, e3⟩
  have CS11 : Hid (∀ W A c, Row W A (bytesV g1) → Row W A1 (bytesV g1) → Calls Try.prog 21 #[.agg #[.int .i64 a1, .int .i64 d1, .slice A n1 c], .agg #[.int .i64 a1, .int .i64 d1, .slice A1 n1 c1]] W fun e w' => e = .returned (.bool true) ∧ Kept W w') := fun W A c hA hA1 => by
    have h := same_any a1 d1 a1 d1 A A1 n1 c n1 c1 g1 g1 W hn1 hl1 hl1 hA hA1
    rwa [sameB_refl] at h
  clear hle1 ht1'
  have CS12 : Hid (∀ W, Row W A1 (bytesV g1) → Row W A2 (bytesV g2) → Calls Try.prog 21 #[.agg #[.int .i64 a1, .int .i64 d1, .slice A1 n1 c1], .agg #[.int .i64 a2, .int .i64 d2, .slice A2 n2 c2]] W fun e w' => e = .returned (.bool (sameB a1 d1 a2 d2 g1 g2)) ∧ Kept W w') := fun W hA hA1 =>
    same_any a1 d1 a2 d2 A1 A2 n1 c1 n2 c2 g1 g2 W hn1 hl1 hl2 hA hA1
  have htt := write_same hl1 hl2 hm1 hm2
  obtain ⟨t2, ht2⟩ : ∃ t, t = writeT a2 d2 n2 g2 := ⟨_, rfl⟩
  rw [← ht1, ← ht2, ← Lib.toList_data, ← Lib.toList_data] at htt
  obtain ⟨bb, hbb⟩ : ∃ b, b = sameB a1 d1 a2 d2 g1 g2 := ⟨_, rfl⟩
  rw [← hbb] at htt CS12
  have CW1 : Hid (∀ W, Row W A1 (bytesV g1) → Calls Try.prog 13 #[.agg #[.int .i64 a1, .int .i64 d1, .slice A1 n1 c1]] W fun e w' => e = .returned (.tuple #[.string t1, .int .i64 0]) ∧ Kept W w') := fun W hW => by
    have h := write_any a1 d1 A1 n1 c1 g1 W ha1 ha1' hd1 hd1' hn1 hc1 hl1 hW
    simpa [checkI, hm1, ← ht1] using h
  have CW2 : Hid (∀ W, Row W A2 (bytesV g2) → Calls Try.prog 13 #[.agg #[.int .i64 a2, .int .i64 d2, .slice A2 n2 c2]] W fun e w' => e = .returned (.tuple #[.string t2, .int .i64 0]) ∧ Kept W w') := fun W hW => by
    have h := write_any a2 d2 A2 n2 c2 g2 W ha2 ha2' hd2 hd2' hn2 hc2 hl2 hW
    simpa [checkI, hm2, ← ht2] using h
  have CC1 : Hid (∀ W, Calls Try.prog 20 #[.agg #[.int .i64 a1, .int .i64 d1, .slice A1 n1 c1]] W fun e w' => e = .returned (.int .i64 0) ∧ Kept W w') := fun W => by
    have h := check_any a1 d1 A1 n1 c1 W ha1 ha1' hd1 hd1' hn1
    simpa [checkI, hm1] using h
  clear ht1 ht2 hbb hm2
  clear hm1 hmN b1 b2 b3 b4 b5
  have ROWS := hide (And.intro hr1 hr2)
  clear ha1 ha1' hd1 hd1' ha2 ha2' hd2 hd2' hn1 hn2 hc1 hc2 hl1 hl2 hr1 hr2
  go_enter Try.func4, Try.ntmps4
  go_wp2_with fail
  refine (CW1.out _ (ROWS.out.1.alloc _ |>.alloc _)).mono ?_
  rintro e w1 ⟨rfl, hk1⟩
  have K1 := hide ((((Below.refl _ w).alloc (Nat.le_refl _) _).alloc (by simp) _).trans (hk1.mono (by simp; omega)))
  have P1 : Box w1 w.heap.size (.int .i64 a1) (.int .i64 d1) (.slice A1 n1 c1) := ((Box.new w _ _ _ 24 _ rfl).alloc _).kept hk1
  have Q1 : Box w1 (w.heap.size + 1) (.int .i64 a2) (.int .i64 d2) (.slice A2 n2 c2) := (Box.new _ _ _ _ 24 _ (by simp)).kept hk1
  have HP1 := hide P1
  have HQ1 := hide Q1
  obtain ⟨p0, p1, p2⟩ := P1
  obtain ⟨q0, q1, q2⟩ := Q1
  clear hk1
  go_wp2_with fail
  refine (CW2.out _ (ROWS.out.2.kept K1.out)).mono ?_
  rintro e w2 ⟨rfl, hk2⟩
  have K2 := hide (K1.out.trans (hk2.mono K1.out.size))
  have P2 := HP1.out.kept hk2
  have Q2 := HQ1.out.kept hk2
  have HP2 := hide P2
  have HQ2 := hide Q2
  clear p0 p1 p2 q0 q1 q2 HP1 HQ1 K1
  obtain ⟨p0, p1, p2⟩ := P2
  obtain ⟨q0, q1, q2⟩ := Q2
  clear hk2
  go_wp2_with fail
  refine (CC1.out _).mono ?_
  rintro e w3 ⟨rfl, hk3⟩
  have K3 := hide (K2.out.trans (hk3.mono K2.out.size))
  have P3' := HP2.out.kept hk3
  have Q3' := HQ2.out.kept hk3
  have HP3 := hide P3'
  have HQ3 := hide Q3'
  clear p0 p1 p2 q0 q1 q2 HP2 HQ2 K2
  obtain ⟨p0, p1, p2⟩ := P3'
  obtain ⟨q0, q1, q2⟩ := Q3'
  clear hk3
  go_wp2_with fail
  refine (CR1.out _).mono ?_
  rintro e w4 ⟨v, rfl, ho, hk4⟩
  obtain ⟨A, c, rfl, hnc, hcm, hrow, -, -⟩ := ho.form
  have K4 := hide (K3.out.trans (hk4.mono K3.out.size))
  have P4 : Box (w4.alloc (.cells #[.int .i64 a1, .int .i64 d1, .slice A n1 c] 24)) w.heap.size (.int .i64 a1) (.int .i64 d1) (.slice A1 n1 c1) := (HP3.out.kept hk4).alloc _
  have Q4 : Box (w4.alloc (.cells #[.int .i64 a1, .int .i64 d1, .slice A n1 c] 24)) (w.heap.size + 1) (.int .i64 a2) (.int .i64 d2) (.slice A2 n2 c2) := (HQ3.out.kept hk4).alloc _
  have HP4 := hide P4
  have HQ4 := hide Q4
  have HR4 := hide hrow
  obtain ⟨p0, p1, p2⟩ := HP3.out.kept hk4
  obtain ⟨q0, q1, q2⟩ := HQ3.out.kept hk4
  have hlt4 : w.heap.size < w4.heap.size := lt_of_cell p0
  have hlt4' : w.heap.size + 1 < w4.heap.size := lt_of_cell q0
  clear HP3 HQ3 K3 hk4 ho hrow hnc hcm
  go_wp2_with fail
  refine (CS11.out _ _ _ (HR4.out.alloc _) ((ROWS.out.1.kept K4.out).alloc _)).mono ?_
  rintro e w5 ⟨rfl, hk5⟩
  have K5 := hide ((K4.out.alloc K4.out.size _).trans (hk5.mono (by have := K4.out.size; simp; omega)))
  have P5 := HP4.out.kept hk5
  have Q5 := HQ4.out.kept hk5
  have HP5 := hide P5
  have HQ5 := hide Q5
  clear p0 p1 p2 q0 q1 q2 HP4 HQ4 K4 hk5 HR4 hlt4 hlt4'
  obtain ⟨p0, p1, p2⟩ := P5
  obtain ⟨q0, q1, q2⟩ := Q5
  go_wp2_with fail
  refine (CS12.out _ (ROWS.out.1.kept K5.out) (ROWS.out.2.kept K5.out)).mono ?_
  rintro e w6 ⟨rfl, hk6⟩
  have K6 := hide (K5.out.trans (hk6.mono K5.out.size))
  clear p0 p1 p2 q0 q1 q2 HP5 HQ5 K5 hk6
  go_wp2_with fail
  have HK := K6
  --- tail from world w6 (heap facts: HK : Kept w w6)
  have rs := read_any s w6 hsm
  generalize hrs : readS s.data.toList = rr at rs
  cases rr with
  | none =>
    refine rs.mono ?_
    rintro e wr ⟨rfl, hkr⟩
    have HKr := hide (HK.out.trans (hkr.mono HK.out.size))
    clear hkr
    go_wp2_with (go_at_call 19; refine (awake_any _).mono ?_; rintro e wz ⟨rfl, hkz⟩)
    go_ret
    exact ⟨rfl, (HKr.out.alloc HKr.out.size _).trans (hkz.mono (by have := HKr.out.size; simp; omega))⟩
  | some t =>
    obtain ⟨ra, rd, rg⟩ := t
    refine rs.mono ?_
    rintro e wr ⟨v, rfl, ho, hkr⟩
    obtain ⟨A, c, rfl, hnc, hcm, hrow, -, -⟩ := ho.form
    have HKr := hide (HK.out.trans (hkr.mono HK.out.size))
    obtain ⟨hmr, hwl⟩ := readS_some hrs
    have cw := write_good ra rd A rg.length c rg (wr.alloc (.cells #[.int .i64 ra, .int .i64 rd, .slice A rg.length c] 24)) hmr hnc rfl (hrow.alloc _)
    rw [show ((ra : Int)).toNat = ra from rfl, show ((rd : Int)).toNat = rd from rfl, hwl, show (⟨s.data.toList.toArray⟩ : ByteArray) = s from by simp] at cw
    have CWR := hide cw
    clear cw hkr ho hwl hmr hrow hrs
    go_wp2_with (first
      | (go_at_call 13; refine CWR.out.mono ?_; rintro e wy ⟨rfl, hky⟩)
      | (go_at_call 19; refine (awake_any _).mono ?_; rintro e wz ⟨rfl, hkz⟩))
    go_ret
    exact ⟨rfl, ((HKr.out.alloc HKr.out.size _).trans (hky.mono (by have := HKr.out.size; simp; omega))).trans (hkz.mono (by have := HKr.out.size; have := hky.size; simp at this; omega))⟩
theorem back_any (a1 d1 a2 d2 : Int) (A1 A2 : Option Addr) (n1 c1 n2 c2 : Nat) (g1 g2 : List UInt8) (s : ByteArray) (w : World)
    (ha1 : -9223372036854775808 ≤ a1) (ha1' : a1 ≤ 9223372036854775807) (hd1 : -9223372036854775808 ≤ d1) (hd1' : d1 ≤ 9223372036854775807) (ha2 : -9223372036854775808 ≤ a2) (ha2' : a2 ≤ 9223372036854775807) (hd2 : -9223372036854775808 ≤ d2) (hd2' : d2 ≤ 9223372036854775807)
    (hn1 : n1 ≤ 9223372036854775807) (hn2 : n2 ≤ 9223372036854775807) (hc1 : n1 ≤ c1) (hc2 : n2 ≤ c2) (hl1 : g1.length = n1) (hl2 : g2.length = n2) (hr1 : Row w A1 (bytesV g1)) (hr2 : Row w A2 (bytesV g2)) (hsm : s.size ≤ maxLen) :
    Calls Try.prog 4 #[.agg #[.int .i64 a1, .int .i64 d1, .slice A1 n1 c1], .agg #[.int .i64 a2, .int .i64 d2, .slice A2 n2 c2], .string s] w fun e w' => e = .returned (.bool true) ∧ Kept w w' := by
  cases hm1 : mayB a1 d1 n1 with
  | false => exact back_no a1 d1 a2 d2 A1 A2 n1 c1 n2 c2 g1 g2 s w ha1 ha1' hd1 hd1' ha2 ha2' hd2 hd2' hn1 hn2 hc1 hc2 hl1 hl2 hr1 hr2 hsm hm1
  | true =>
    cases hm2 : mayB a2 d2 n2 with
    | false => exact back_one a1 d1 a2 d2 A1 A2 n1 c1 n2 c2 g1 g2 s w ha1 ha1' hd1 hd1' ha2 ha2' hd2 hd2' hn1 hn2 hc1 hc2 hl1 hl2 hr1 hr2 hsm hm1 hm2
    | true => exact back_two a1 d1 a2 d2 A1 A2 n1 c1 n2 c2 g1 g2 s w ha1 ha1' hd1 hd1' ha2 ha2' hd2 hd2' hn1 hn2 hc1 hc2 hl1 hl2 hr1 hr2 hsm hm1 hm2
end Go.Proofs.Ytbhgcbgaadnfpaa
