/- The law PictureBytes, walked. -/
import Derived.Test.YtbhgcbgaadnfpaaHold
import Derived.Test.YtbhgcbgaadnfpaaKept
import Derived.Test.YtbhgcbgaadnfpaaBackL
namespace Go.Proofs.Ytbhgcbgaadnfpaa
open Go.RowKit

theorem rwrite_any (a d : Int) (A : Option Addr) (n c : Nat) (g : List UInt8) (w : World) (ha : -9223372036854775808 ≤ a) (ha' : a ≤ 9223372036854775807) (hd : -9223372036854775808 ≤ d) (hd' : d ≤ 9223372036854775807) (hn : n ≤ 9223372036854775807) (hnc : n ≤ c) (hl : g.length = n) (hr : Row w A (bytesV g)) :
    Calls Try.prog 14 #[.agg #[.int .i64 a, .int .i64 d, .slice A n c]] w fun e w' => e = .returned (.tuple #[.string (writeT a d n g), .int .i64 (checkI a d n)]) ∧ Kept w w' := by
  cases hm : mayB a d n with
  | true =>
    have := rwrite_good a d A n c g w hm hnc hl hr
    simpa [writeT, checkI, hm] using this
  | false =>
    have := rwrite_bad a d A n c w ha ha' hd hd' hn hm
    simpa [writeT, checkI, hm] using this

def rdA : Option (Nat × Nat × List UInt8) → Int | none => 0 | some (a, _, _) => a
def rdD : Option (Nat × Nat × List UInt8) → Int | none => 0 | some (_, d, _) => d
def rdG : Option (Nat × Nat × List UInt8) → List UInt8 | none => [] | some (_, _, g) => g
def rdE : Option (Nat × Nat × List UInt8) → Int | none => 292 | some _ => 0
/-- What a reader leaves, with one name for both cases. -/
theorem read_form {w w' : World} {r : Option (Nat × Nat × List UInt8)} {e : Ending} (h : ReadPost w r e w') :
    ∃ (A : Option Addr) (c : Nat), e = .returned (.tuple #[.agg #[.int .i64 (rdA r), .int .i64 (rdD r), .slice A (rdG r).length c], .int .i64 (rdE r)]) ∧ Own w' w.heap.size 1 (.slice A (rdG r).length c) (rdG r).length (bytesV (rdG r)) ∧ Kept w w' := by
  cases r with
  | none =>
    obtain ⟨rfl, hk⟩ := h
    exact ⟨none, 0, rfl, Own.nil _ _ _, hk⟩
  | some t =>
    obtain ⟨a, d, g⟩ := t
    obtain ⟨v, rfl, ho, hk⟩ := h
    obtain ⟨A, c, rfl, -, -, -, -, -⟩ := ho.form
    exact ⟨A, c, rfl, ho, hk⟩
theorem read_len (l : List UInt8) : (rdG (readS l)).length ≤ 4194304 := by
  cases h : readS l with
  | none => simp [rdG]
  | some t =>
    obtain ⟨a, d, g⟩ := t
    have := mayB_bounds (readS_some h).1
    simp only [rdG]; omega

set_option maxRecDepth 100000 in
set_option maxHeartbeats 1600000 in
theorem bytes_any (a d : Int) (A : Option Addr) (n c : Nat) (g : List UInt8) (s : ByteArray) (w : World) (ha : -9223372036854775808 ≤ a) (ha' : a ≤ 9223372036854775807) (hd : -9223372036854775808 ≤ d) (hd' : d ≤ 9223372036854775807) (hn : n + 1 ≤ 140737488355328) (hnc : n ≤ c) (hl : g.length = n) (hr : Row w A (bytesV g)) (hsm : s.size ≤ maxLen) :
    Calls Try.prog 3 #[.agg #[.int .i64 a, .int .i64 d, .slice A n c], .string s] w fun e w' => e = .returned (.bool true) ∧ Kept w w' := by
  obtain ⟨t, ht⟩ : ∃ t, t = writeT a d n g := ⟨_, rfl⟩
  obtain ⟨ec, hec⟩ : ∃ x, x = checkI a d n := ⟨_, rfl⟩
  obtain ⟨xa, hxa⟩ : ∃ x, x = rdA (readS s.data.toList) := ⟨_, rfl⟩
  obtain ⟨xd, hxd⟩ : ∃ x, x = rdD (readS s.data.toList) := ⟨_, rfl⟩
  obtain ⟨xg, hxg⟩ : ∃ x, x = rdG (readS s.data.toList) := ⟨_, rfl⟩
  obtain ⟨xe, hxe⟩ : ∃ x, x = rdE (readS s.data.toList) := ⟨_, rfl⟩
  have xl : xg.length ≤ 4194304 := by rw [hxg]; exact read_len _
  obtain ⟨m, hm⟩ : ∃ m, m = xg.length := ⟨_, rfl⟩
  have CW : Hid (∀ W A' c', n ≤ c' → Row W A' (bytesV g) → Calls Try.prog 13 #[.agg #[.int .i64 a, .int .i64 d, .slice A' n c']] W fun e w' => e = .returned (.tuple #[.string t, .int .i64 ec]) ∧ Kept W w') := fun W A' c' hc' hW => by
    rw [ht, hec]; exact write_any a d A' n c' g W ha ha' hd hd' (by omega) hc' hl hW
  have CV : Hid (∀ W, Row W A (bytesV g) → Calls Try.prog 14 #[.agg #[.int .i64 a, .int .i64 d, .slice A n c]] W fun e w' => e = .returned (.tuple #[.string t, .int .i64 ec]) ∧ Kept W w') := fun W hW => by
    rw [ht, hec]; exact rwrite_any a d A n c g W ha ha' hd hd' (by omega) hnc hl hW
  have CR : Hid (∀ W, Calls Try.prog 15 #[.string s] W fun e w' => ∃ (A : Option Addr) (c : Nat), e = .returned (.tuple #[.agg #[.int .i64 xa, .int .i64 xd, .slice A m c], .int .i64 xe]) ∧ Own w' W.heap.size 1 (.slice A m c) m (bytesV xg) ∧ Kept W w') := fun W =>
    (read_any s W hsm).mono fun e w' h => by rw [hm, hxa, hxd, hxe, hxg]; exact read_form h
  have CX : Hid (∀ W, Calls Try.prog 16 #[.string s] W fun e w' => ∃ (A : Option Addr) (c : Nat), e = .returned (.tuple #[.agg #[.int .i64 xa, .int .i64 xd, .slice A m c], .int .i64 xe]) ∧ Own w' W.heap.size 1 (.slice A m c) m (bytesV xg) ∧ Kept W w') := fun W =>
    (rread_any s W hsm).mono fun e w' h => by rw [hm, hxa, hxd, hxe, hxg]; exact read_form h
  have ROW := hide (And.intro hr hl)
  have XL : Hid (xg.length = m ∧ m ≤ 4194304) := ⟨hm.symm, by omega⟩
  clear ht hec hxa hxd hxg hxe hm xl ha ha' hd hd' hnc hl hr hsm
  go_enter Try.func3, Try.ntmps3
  go_wp2_with fail
  refine (lent_any a d A n c g _ hn ROW.out.2 (ROW.out.1.alloc _)).mono ?_
  rintro e w1 ⟨A1, c1, rfl, ho1, hk1⟩
  have hc1 : n ≤ c1 := by obtain ⟨A', c', hv, h1, -, -, -, -⟩ := ho1.form; injection hv with _ _ h3; omega
  have hrg1 : Row w1 A1 (bytesV g) := by
    have := ho1.row.take n
    rw [bytesV_take] at this
    rwa [List.take_append_of_le_length (by have := ROW.out.2; omega), List.take_of_length_le (by have := ROW.out.2; omega)] at this
  have K1 := hide ((((Below.refl _ w).alloc (Nat.le_refl _) (.cells #[.int .i64 a, .int .i64 d, .slice A n c] 24))).trans (hk1.mono (by simp)))
  have P1 : Box w1 w.heap.size (.int .i64 a) (.int .i64 d) (.slice A n c) := (Box.new w _ _ _ 24 _ rfl).kept hk1
  have O1 := hide ho1
  have HP1 := hide P1
  obtain ⟨p0, p1, p2⟩ := P1
  have lt1 := lt_of_cell p0
  clear hk1 ho1
  go_wp2_with fail
  refine (CW.out _ A1 c1 hc1 (hrg1.alloc _)).mono ?_
  rintro e w2 ⟨rfl, hk2⟩
  have lt1' : w.heap.size < w1.heap.size := lt1
  have K2 := hide ((K1.out.alloc K1.out.size _).trans (hk2.mono (by have := K1.out.size; simp; omega)))
  have P2 := (HP1.out.alloc (.cells #[.int .i64 a, .int .i64 d, .slice A1 n c1] 24)).kept hk2
  have Q2 : Box w2 w1.heap.size (.int .i64 a) (.int .i64 d) (.slice A1 n c1) := (Box.new w1 _ _ _ 24 _ rfl).kept hk2
  have O2 := hide ((O1.out.alloc (.cells #[.int .i64 a, .int .i64 d, .slice A1 n c1] 24)).kept hk2)
  have HP2 := hide P2
  have HQ2 := hide Q2
  clear p0 p1 p2 HP1 K1 O1 hrg1
  obtain ⟨p0, p1, p2⟩ := P2
  clear hk2
  go_wp2_with fail
  refine (CV.out _ (ROW.out.1.kept K2.out)).mono ?_
  rintro e w3 ⟨rfl, hk3⟩
  have K3 := hide (K2.out.trans (hk3.mono K2.out.size))
  have HP3 := hide (HP2.out.kept hk3)
  have HQ3 := hide (HQ2.out.kept hk3)
  have O3 := hide (O2.out.kept hk3)
  have ltp : w.heap.size < w3.heap.size := lt_of_cell HP3.out.1
  have ltq : w1.heap.size < w3.heap.size := lt_of_cell HQ3.out.1
  clear p0 p1 p2 HP2 HQ2 K2 O2 hk3
  go_wp2_with fail
  refine (CR.out _).mono ?_
  rintro e w4 ⟨A4, c4, rfl, ho4, hk4⟩
  have K4 := hide hk4
  have O4 := hide ho4
  clear hk4 ho4
  go_wp2_with fail
  refine (CR.out _).mono ?_
  rintro e w5 ⟨A5, c5, rfl, ho5, hk5⟩
  have R5 : Box w5 w4.heap.size (.int .i64 xa) (.int .i64 xd) (.slice A4 m c4) := (Box.new w4 _ _ _ 24 _ rfl).kept hk5
  have O45 := hide ((O4.out.alloc (.cells #[.int .i64 xa, .int .i64 xd, .slice A4 m c4] 24)).kept hk5)
  have K5 := hide ((K4.out.alloc K4.out.size (.cells #[.int .i64 xa, .int .i64 xd, .slice A4 m c4] 24)).trans (hk5.mono (by have := K4.out.size; simp; omega)))
  have O5 := hide ho5
  have HR5 := hide R5
  have lt4 : ∀ k, (Value.slice A4 m c4).ownBlock = some k → k < w4.heap.size := fun k hk => (O4.out.lt k hk).2
  have LT4 := hide lt4
  clear lt4 R5 hk5 ho5 O4 K4
  go_wp2_with fail
  refine (CX.out _).mono ?_
  rintro e w6 ⟨A6, c6, rfl, ho6, hk6⟩
  obtain ⟨W6, hW6⟩ : ∃ W6, W6 = w6.alloc (.cells #[.int .i64 xa, .int .i64 xd, .slice A6 m c6] 24) := ⟨_, rfl⟩
  have hk66 : Kept w6 W6 := by rw [hW6]; exact (Below.refl _ _).alloc (Nat.le_refl _) _
  have R6 : Box W6 w4.heap.size (.int .i64 xa) (.int .i64 xd) (.slice A4 m c4) := ((HR5.out.alloc (.cells #[.int .i64 xa, .int .i64 xd, .slice A5 m c5] 24)).kept hk6).kept hk66
  have S6 : Box W6 w5.heap.size (.int .i64 xa) (.int .i64 xd) (.slice A5 m c5) := ((Box.new w5 _ _ _ 24 _ rfl).kept hk6).kept hk66
  have T6 : Box W6 w6.heap.size (.int .i64 xa) (.int .i64 xd) (.slice A6 m c6) := by rw [hW6]; exact Box.new w6 _ _ _ 24 _ rfl
  have K6 := hide ((K5.out.alloc K5.out.size (.cells #[.int .i64 xa, .int .i64 xd, .slice A5 m c5] 24)).trans ((hk6.trans' hk66).mono (by have := K5.out.size; simp; omega)))
  have OA : Own W6 w3.heap.size 1 (.slice A4 m c4) m (bytesV xg) := ((O45.out.alloc (.cells #[.int .i64 xa, .int .i64 xd, .slice A5 m c5] 24)).kept hk6).kept hk66
  have OB := ((O5.out.alloc (.cells #[.int .i64 xa, .int .i64 xd, .slice A5 m c5] 24)).kept hk6).kept hk66
  have OC := ho6.kept hk66
  have z45 : w4.heap.size < w5.heap.size := lt_of_cell HR5.out.1
  have HELD := hide (held_any xa xd A4 A5 A6 m c4 c5 c6 w3.heap.size xg W6 XL.out.2 XL.out.1 K6.out.size OA OB.row OC.row
    (fun _ b off hB e => by
      have h1 := LT4.out b e.symm
      have h2 := (O5.out.lt b (by rw [hB]; rfl)).1
      simp at h2; omega)
    (fun _ b off hC e => by
      have h1 := LT4.out b e.symm
      have h2 := (ho6.lt b (by rw [hC]; rfl)).1
      simp at h2; omega))
  obtain ⟨r0, r1, r2⟩ := R6
  obtain ⟨s0, s1, s2⟩ := S6
  obtain ⟨t0, t1, t2⟩ := T6
  have T0 : (t.toList == t.toList) = true := by simp
  have ltA := lt_of_cell r0
  have ltB := lt_of_cell s0
  have ltC := lt_of_cell t0
  have K36 := hide (show Kept w3 W6 from K6.out)
  subst hW6
  clear hk6 hk66 ho6 OA OB OC HR5 O45 O5 K5 K6 LT4
  go_wp2_with fail
  refine HELD.out.mono ?_
  rintro e w7 ⟨rfl, hb7⟩
  have K37 := hide (K36.out.trans hb7)
  have HP7 := HP3.out.kept K37.out
  have HQ7 := HQ3.out.kept K37.out
  obtain ⟨p0, p1, p2⟩ := HP7
  obtain ⟨q0, q1, q2⟩ := HQ7
  have O7 := O3.out.kept K37.out
  have KK := hide (K3.out.trans (K37.out.mono K3.out.size))
  clear hb7 r0 r1 r2 s0 s1 s2 t0 t1 t2
  go_wp2_with fail
  refine (kept_any a d A A1 n c c1 _ g w7 hn ROW.out.2 (ROW.out.1.kept KK.out) O7).mono ?_
  rintro e w8 ⟨rfl, hk8⟩
  go_wp2_with (go_at_call 19; refine (awake_any _).mono ?_; rintro e w9 ⟨rfl, hk9⟩)
  go_ret
  exact ⟨rfl, (KK.out.trans (hk8.mono KK.out.size)).trans (hk9.mono (Nat.le_trans KK.out.size hk8.size))⟩
end Go.Proofs.Ytbhgcbgaadnfpaa
