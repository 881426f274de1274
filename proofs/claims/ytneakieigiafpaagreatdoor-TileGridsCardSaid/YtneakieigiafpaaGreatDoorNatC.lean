/- Numbers that may be: nat.may, nat.Check, dyad.Check, gauss.Check, walked. -/
import Derived.Test.YtneakieigiafpaaGreatDoorMem
import Derived.BigQuiet
import Derived.Deep.QuietTactic
import Derived.Deep.LoopGhost
import Derived.Lib.Strings
import Derived.Test.YtneakieigiafpaaGreatDoorRows
namespace Go.Proofs.YtneakieigiafpaaGreatDoor
open Go.RowKit

/-- May these bytes be a number's? -/
def natB (l : List UInt8) : Bool := decide (l.length ≤ 16384) && !(l.head? == some 0)

theorem head_data (s : ByteArray) (h : 0 < s.size) : s.data.toList.head? = some s[0] := by
  obtain ⟨⟨l⟩⟩ := s
  cases l with
  | nil => exact absurd h (by decide)
  | cons x l => rfl
theorem empty_of_size (s : ByteArray) (h : s.size = 0) : s = ⟨#[]⟩ := by
  obtain ⟨⟨l⟩⟩ := s
  cases l with
  | nil => rfl
  | cons x l => exact absurd h (by show ¬ (l.length + 1 = 0); omega)

set_option maxRecDepth 100000 in
set_option maxHeartbeats 400000 in
theorem natmay_any (s : ByteArray) (b : Nat) (c : Nat) (w : World) (hs : s.size ≤ maxLen) (hc : w.cell? ⟨b, 0, none⟩ = some (.string s)) :
    Calls Tryz.prog 265 #[.slice (some ⟨b, 0, none⟩) 1 c] w fun e w' => e = .returned (.bool (natB s.data.toList)) ∧ w = w' := by
  unfold maxLen at hs
  have hb := lt_of_cell hc
  obtain ⟨N, hN⟩ : ∃ N, N = natB s.data.toList := ⟨_, rfl⟩
  rw [← hN]
  have HN := hide hN
  clear hN
  go_enter Tryz.func265, Tryz.ntmps265
  go_wp2
  go_loop [7] (fun i => ∃ k : Nat, k ≤ 1 ∧ i = .int .i64 k ∧ Hid (k = 1 → N = true)) (fun i => 1 - (intOf i).toNat)
  case atStart => exact ⟨0, by omega, rfl, fun h => by omega⟩
  case round =>
    obtain ⟨k, hk, rfl, HK⟩ := hrel
    rcases (show k = 0 ∨ k = 1 by omega) with rfl | rfl
    · by_cases h1 : 16384 < s.size
      · have hI : (16384 : Int) < s.size := by omega
        go_wp2
        go_ret
        exact ⟨bool_ret (by rw [HN.out]; simp [natB]; omega), rfl⟩
      · by_cases h0 : s.size = 0
        · have hE := empty_of_size s h0
          subst hE
          go_wp2
          go_round
          case rel => exact ⟨1, by omega, by go_num, fun _ => by rw [HN.out]; rfl⟩
          case measure => simp [intOf]
        · have hI : ¬ (16384 : Int) < s.size := by omega
          have hz : s.toList = [] ↔ False := by
            rw [Lib.toList_data]
            constructor
            · intro h; exact h0 (by rw [← ByteArray.size_data, ← Array.length_toList, h]; rfl)
            · exact False.elim
          have hz1 : s.toList.isEmpty = false := by
            cases h : s.toList with
            | nil => exact (hz.1 h).elim
            | cons x l => rfl
          have hp : 0 < s.size := by omega
          have hpI : (0 : Int) < s.size := by omega
          have hh := head_data s hp
          obtain ⟨x, hx⟩ : ∃ x, s[0] = x := ⟨_, rfl⟩
          rw [hx] at hh
          have HH := hide hh
          clear hh
          by_cases hx0 : x = 0
          · subst hx0
            go_wp2
            go_ret
            exact ⟨bool_ret (by rw [HN.out]; simp [natB, HH.out]), rfl⟩
          · have hxI : ((x.toNat : Int) == 0) = false := by
              rw [beq_eq_false_iff_ne]; intro h
              exact hx0 (UInt8.toNat_inj.1 (by simpa using h))
            go_wp2
            go_round
            case rel => exact ⟨1, by omega, by go_num, fun _ => by rw [HN.out]; simp [natB, HH.out, hx0]; omega⟩
            case measure => simp [intOf]
    · have HT := hide (HK.out rfl)
      clear HK
      go_wp2
      go_ret
      exact ⟨bool_ret HT.out.symm, rfl⟩

def natI (l : List UInt8) : Int := if natB l then 0 else 2
set_option maxRecDepth 100000 in
set_option maxHeartbeats 400000 in
theorem natcheck_any (s : ByteArray) (w : World) (hs : s.size ≤ maxLen) : Calls Tryz.prog 230 #[.string s] w fun e w' => e = .returned (.int .i64 (natI s.data.toList)) ∧ Kept w w' := by
  have CM := hide (fun (W : World) (b c : Nat) (hc : W.cell? ⟨b, 0, none⟩ = some (.string s)) => natmay_any s b c W hs hc)
  obtain ⟨N, hN⟩ : ∃ N, N = natB s.data.toList := ⟨_, rfl⟩
  rw [← hN] at CM
  rw [show natI s.data.toList = if N then 0 else 2 by rw [hN]; rfl]
  clear hN
  cases N with
  | true =>
    go_enter Tryz.func230, Tryz.ntmps230
    go_wp2_with (go_at_call 265; refine (CM.out _ _ _ (by simp)).mono ?_; rintro e w1 ⟨rfl, rfl⟩)
    go_ret
    exact ⟨rfl, (Below.refl _ _).alloc (Nat.le_refl _) _⟩
  | false =>
    go_enter Tryz.func230, Tryz.ntmps230
    go_wp2_with (go_at_call 265; refine (CM.out _ _ _ (by simp)).mono ?_; rintro e w1 ⟨rfl, rfl⟩)
    go_ret
    exact ⟨rfl, (Below.refl _ _).alloc (Nat.le_refl _) _⟩

/-! ### Dyads, complex numbers -/
structure DyD where
  neg : Bool
  n : ByteArray
  e : Int
def DyD.ok (d : DyD) : Prop := d.n.size ≤ maxLen ∧ -9223372036854775808 ≤ d.e ∧ d.e ≤ 9223372036854775807
def DyD.cells (d : DyD) : List Value := [.bool d.neg, .string d.n, .int .i64 d.e]
def dyadB (d : DyD) : Bool := (!d.neg && (decide (d.n.data.toList = []) && decide (d.e = 0))) ||
  (!decide (d.n.data.toList = []) && (natB d.n.data.toList && (!decide ((d.n.data.toList.getLast?.getD 0).toNat % 2 = 0) && (decide (-1048576 ≤ d.e) && decide (d.e ≤ 1048576)))))
def dyadI (d : DyD) : Int := if dyadB d then 0 else 2
theorem last_data (s : ByteArray) (h : 0 < s.size) : s.data.toList.getLast? = some (s[s.size - 1]'(by omega)) := by
  obtain ⟨⟨l⟩⟩ := s
  show l.getLast? = _
  rw [List.getLast?_eq_getElem?]
  have hl : 0 < l.length := h
  rw [List.getElem?_eq_getElem (by omega)]
  rfl

set_option maxRecDepth 100000 in
set_option maxHeartbeats 1600000 in
theorem dyadcheck_any (d : DyD) (w : World) (hd : d.ok) : Calls Tryz.prog 177 #[.agg #[.bool d.neg, .string d.n, .int .i64 d.e]] w fun e w' => e = .returned (.int .i64 (dyadI d)) ∧ Kept w w' := by
  obtain ⟨neg, s, x⟩ := d
  obtain ⟨hs, hx0, hx1⟩ := hd
  have CN := hide (fun (W : World) => natcheck_any s W hs)
  simp only at hs hx0 hx1 ⊢
  by_cases h0 : s.size = 0
  · have hE := empty_of_size s h0
    subst hE
    by_cases hx : x = 0
    · subst hx
      cases neg with
      | false =>
        go_enter Tryz.func177, Tryz.ntmps177
        go_wp2
        go_ret
        exact ⟨rfl, (Below.refl _ _).alloc (Nat.le_refl _) _⟩
      | true =>
        go_enter Tryz.func177, Tryz.ntmps177
        go_wp2
        go_ret
        exact ⟨rfl, (Below.refl _ _).alloc (Nat.le_refl _) _⟩
    · have HX := hide hx
      go_enter Tryz.func177, Tryz.ntmps177
      go_wp2
      go_ret
      exact ⟨int_ret (by simp [dyadI, dyadB, HX.out]), (Below.refl _ _).alloc (Nat.le_refl _) _⟩
  · have hp : 0 < s.size := by omega
    have hd0 : s.data.toList ≠ [] := by
      intro h; exact h0 (by rw [← ByteArray.size_data, ← Array.length_toList, h]; rfl)
    have hz : s.toList = [] ↔ False := by
      rw [Lib.toList_data]
      exact ⟨fun h => hd0 h, False.elim⟩
    have hz1 : s.toList.isEmpty = false := by
      cases h : s.toList with
      | nil => exact (hz.1 h).elim
      | cons x l => rfl
    have hne : s ≠ ⟨#[]⟩ := fun h => h0 (by rw [h]; rfl)
    have hpI : (0 : Int) < s.size := by omega
    have k1 : (0 : Int) ≤ (s.size : Int) - 1 := by omega
    have k2 : (s.size : Int) - 1 < s.size := by omega
    have k3 : ((s.size : Int) - 1).toNat = s.size - 1 := by omega
    have k4 : IntKind.i64.wrap ((s.size : Int) - 1) = (s.size : Int) - 1 := IntWalk.i64_in _ (by unfold maxLen at hs; omega)
    have k5 : s.size - 1 < s.size := by omega
    have HD : Hid (dyadI ⟨neg, s, x⟩ = if natB s.data.toList && (!decide ((s[s.size - 1]'k5).toNat % 2 = 0) && (decide (-1048576 ≤ x) && decide (x ≤ 1048576))) then 0 else 2) := by
      show _ = _
      simp [dyadI, dyadB, hd0, last_data s hp]
    obtain ⟨y, hy⟩ : ∃ y, s[s.size - 1]'k5 = y := ⟨_, rfl⟩
    rw [hy] at HD
    cases hn : natB s.data.toList with
    | false =>
      rw [show natI s.data.toList = 2 by simp [natI, hn]] at CN
      rw [hn] at HD
      clear hn hd0
      go_enter Tryz.func177, Tryz.ntmps177
      go_wp2_with (go_at_call 230; refine (CN.out _).mono ?_; rintro e w1 ⟨rfl, hk1⟩; have K1 := hide (((Below.refl _ w).alloc (Nat.le_refl _) (.cells #[.bool neg, .string s, .int .i64 x] 25)).trans (hk1.mono (by simp))); have c1 := (hk1.cells w.heap.size 1 (by simp)); have c2 := (hk1.cells w.heap.size 2 (by simp)); simp at c1 c2; have hz5 := lt_of_cell c1; clear hk1)
      go_ret
      exact ⟨int_ret (by rw [HD.out]; rfl), K1.out⟩
    | true =>
      rw [show natI s.data.toList = 0 by simp [natI, hn]] at CN
      rw [hn] at HD
      clear hn hd0
      go_enter Tryz.func177, Tryz.ntmps177
      go_wp2_with (go_at_call 230; refine (CN.out _).mono ?_; rintro e w1 ⟨rfl, hk1⟩; have K1 := hide (((Below.refl _ w).alloc (Nat.le_refl _) (.cells #[.bool neg, .string s, .int .i64 x] 25)).trans (hk1.mono (by simp))); have c1 := (hk1.cells w.heap.size 1 (by simp)); have c2 := (hk1.cells w.heap.size 2 (by simp)); simp at c1 c2; have hz5 := lt_of_cell c1; clear hk1)
      all_goals
        go_ret
        refine ⟨int_ret ?_, K1.out⟩
        rw [HD.out]
        simp only [beq_iff_eq, beq_eq_false_iff_ne, ne_eq] at *
        split
        · rename_i hq; simp at hq; first | rfl | omega
        · rename_i hq; simp at hq; first | rfl | omega

/-! ### Exact complex numbers; windows; grids -/
def gaussI (p q : DyD) : Int := if dyadB p && dyadB q then 0 else 2
set_option maxRecDepth 100000 in
set_option maxHeartbeats 800000 in
theorem gausscheck_any (p q : DyD) (w : World) (hp : p.ok) (hq : q.ok) :
    Calls Tryz.prog 119 #[.agg #[.bool p.neg, .string p.n, .int .i64 p.e, .bool q.neg, .string q.n, .int .i64 q.e]] w fun e w' => e = .returned (.int .i64 (gaussI p q)) ∧ Kept w w' := by
  have CP := hide (fun (W : World) => dyadcheck_any p W hp)
  have CQ := hide (fun (W : World) => dyadcheck_any q W hq)
  clear hp hq
  cases hp : dyadB p with
  | false =>
    rw [show dyadI p = 2 by simp [dyadI, hp]] at CP
    have HP := hide hp
    clear hp
    go_enter Tryz.func119, Tryz.ntmps119
    go_wp2_with (go_at_call 177; refine (CP.out _).mono ?_; rintro e w1 ⟨rfl, hk1⟩)
    go_ret
    exact ⟨int_ret (by simp [gaussI, HP.out]), ((Below.refl _ w).alloc (Nat.le_refl _) _).trans (hk1.mono (by simp))⟩
  | true =>
    rw [show dyadI p = 0 by simp [dyadI, hp]] at CP
    have HP := hide hp
    clear hp
    cases hq : dyadB q with
    | false =>
      rw [show dyadI q = 2 by simp [dyadI, hq]] at CQ
      have HQ := hide hq
      clear hq
      go_enter Tryz.func119, Tryz.ntmps119
      go_wp2_with fail
      refine (CP.out _).mono ?_
      rintro e w1 ⟨rfl, hk1⟩
      have c3 := (hk1.cells w.heap.size 3 (by simp))
      have c4 := (hk1.cells w.heap.size 4 (by simp))
      have c5 := (hk1.cells w.heap.size 5 (by simp))
      simp at c3 c4 c5
      have hz5 := lt_of_cell c3
      have K1 := hide (((Below.refl _ w).alloc (Nat.le_refl _) (.cells #[.bool p.neg, .string p.n, .int .i64 p.e, .bool q.neg, .string q.n, .int .i64 q.e] 27)).trans (hk1.mono (by simp)))
      clear hk1
      go_wp2_with fail
      refine (CQ.out _).mono ?_
      rintro e w2 ⟨rfl, hk2⟩
      go_wp2_with fail
      go_ret
      exact ⟨int_ret (by simp [gaussI, HQ.out]), K1.out.trans (hk2.mono K1.out.size)⟩
    | true =>
      rw [show dyadI q = 0 by simp [dyadI, hq]] at CQ
      have HQ := hide hq
      clear hq
      go_enter Tryz.func119, Tryz.ntmps119
      go_wp2_with fail
      refine (CP.out _).mono ?_
      rintro e w1 ⟨rfl, hk1⟩
      have c3 := (hk1.cells w.heap.size 3 (by simp))
      have c4 := (hk1.cells w.heap.size 4 (by simp))
      have c5 := (hk1.cells w.heap.size 5 (by simp))
      simp at c3 c4 c5
      have hz5 := lt_of_cell c3
      have K1 := hide (((Below.refl _ w).alloc (Nat.le_refl _) (.cells #[.bool p.neg, .string p.n, .int .i64 p.e, .bool q.neg, .string q.n, .int .i64 q.e] 27)).trans (hk1.mono (by simp)))
      clear hk1
      go_wp2_with fail
      refine (CQ.out _).mono ?_
      rintro e w2 ⟨rfl, hk2⟩
      go_wp2_with fail
      go_ret
      exact ⟨int_ret (by simp [gaussI, HP.out, HQ.out]), K1.out.trans (hk2.mono K1.out.size)⟩
end Go.Proofs.YtneakieigiafpaaGreatDoor
