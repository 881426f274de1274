/- NatC, Grid, RectW, RectR, AtG, Plc, PlcL, Rects, QuietR, HeldR, RectsK, RangeO, RectsO, Defs, OpenGr: texts of one claim laid together. -/
import Derived.Test.YtneakieigiafpaaGreatDoorMem
import Derived.BigQuiet
import Derived.Deep.QuietTactic
import Derived.Deep.LoopGhost
import Derived.Lib.Strings
import Derived.Test.YtneakieigiafpaaGreatDoorRows
import Derived.Test.YtneakieigiafpaaGreatDoorHeld
import Derived.Deep.DeepCutAuto
import Derived.IntWalk
import Derived.RangeFuncNested
import Derived.RangeFuncBound
import Derived.RangeFuncCalls
import Derived.RangeFuncLeaves
import Derived.Shelf.Abstract
import Derived.Shelf.RegionOpen
import Derived.WalkKit
import Derived.OwnWalkIn
import Derived.TacticsInMore
import Derived.LoopNIn
import Derived.LoopIn
import Derived.Sort.BigQuietIn
import Derived.OpenShut
import Derived.ProofKit
import Derived.Deep.Slices
import Derived.ChangeSame
/- Numbers that may be: nat.may, nat.Check, dyad.Check, gauss.Check, walked. -/
namespace Go.Proofs.YtneakieigiafpaaGreatDoor
open Go.RowKit

/-- May these bytes be a number's? -/
def natB (l : List UInt8) : Bool := decide (l.length ≤ 16384) && !(l.head? == some 0)

theorem head_data (s : ByteArray) (h : 0 < s.size) : s.data.toList.head? = some s[0] := by
  obtain ⟨⟨l⟩⟩ := s
  cases l with
  | nil => exact absurd h (by decide)
  | cons x l => rfl
theorem empty_of_size (s : ByteArray) (h : s.size = 0) : s = ⟨#[]⟩ := by
  obtain ⟨⟨l⟩⟩ := s
  cases l with
  | nil => rfl
  | cons x l => exact absurd h (by show ¬ (l.length + 1 = 0); omega)

set_option maxRecDepth 100000 in
set_option maxHeartbeats 400000 in
theorem natmay_any (s : ByteArray) (b : Nat) (c : Nat) (w : World) (hs : s.size ≤ maxLen) (hc : w.cell? ⟨b, 0, none⟩ = some (.string s)) :
    Calls Tryz.prog 265 #[.slice (some ⟨b, 0, none⟩) 1 c] w fun e w' => e = .returned (.bool (natB s.data.toList)) ∧ w = w' := by
  unfold maxLen at hs
  have hb := lt_of_cell hc
  obtain ⟨N, hN⟩ : ∃ N, N = natB s.data.toList := ⟨_, rfl⟩
  rw [← hN]
  have HN := hide hN
  clear hN
  go_enter Tryz.func265, Tryz.ntmps265
  go_wp2
  go_loop [7] (fun i => ∃ k : Nat, k ≤ 1 ∧ i = .int .i64 k ∧ Hid (k = 1 → N = true)) (fun i => 1 - (intOf i).toNat)
  case atStart => exact ⟨0, by omega, rfl, fun h => by omega⟩
  case round =>
    obtain ⟨k, hk, rfl, HK⟩ := hrel
    rcases (show k = 0 ∨ k = 1 by omega) with rfl | rfl
    · by_cases h1 : 16384 < s.size
      · have hI : (16384 : Int) < s.size := by omega
        go_wp2
        go_ret
        exact ⟨bool_ret (by rw [HN.out]; simp [natB]; omega), rfl⟩
      · by_cases h0 : s.size = 0
        · have hE := empty_of_size s h0
          subst hE
          go_wp2
          go_round
          case rel => exact ⟨1, by omega, by go_num, fun _ => by rw [HN.out]; rfl⟩
          case measure => simp [intOf]
        · have hI : ¬ (16384 : Int) < s.size := by omega
          have hz : s.toList = [] ↔ False := by
            rw [Lib.toList_data]
            constructor
            · intro h; exact h0 (by rw [← ByteArray.size_data, ← Array.length_toList, h]; rfl)
            · exact False.elim
          have hz1 : s.toList.isEmpty = false := by
            cases h : s.toList with
            | nil => exact (hz.1 h).elim
            | cons x l => rfl
          have hp : 0 < s.size := by omega
          have hpI : (0 : Int) < s.size := by omega
          have hh := head_data s hp
          obtain ⟨x, hx⟩ : ∃ x, s[0] = x := ⟨_, rfl⟩
          rw [hx] at hh
          have HH := hide hh
          clear hh
          by_cases hx0 : x = 0
          · subst hx0
            go_wp2
            go_ret
            exact ⟨bool_ret (by rw [HN.out]; simp [natB, HH.out]), rfl⟩
          · have hxI : ((x.toNat : Int) == 0) = false := by
              rw [beq_eq_false_iff_ne]; intro h
              exact hx0 (UInt8.toNat_inj.1 (by simpa using h))
            go_wp2
            go_round
            case rel => exact ⟨1, by omega, by go_num, fun _ => by rw [HN.out]; simp [natB, HH.out, hx0]; omega⟩
            case measure => simp [intOf]
    · have HT := hide (HK.out rfl)
      clear HK
      go_wp2
      go_ret
      exact ⟨bool_ret HT.out.symm, rfl⟩

def natI (l : List UInt8) : Int := if natB l then 0 else 2
set_option maxRecDepth 100000 in
set_option maxHeartbeats 400000 in
theorem natcheck_any (s : ByteArray) (w : World) (hs : s.size ≤ maxLen) : Calls Tryz.prog 230 #[.string s] w fun e w' => e = .returned (.int .i64 (natI s.data.toList)) ∧ Kept w w' := by
  have CM := hide (fun (W : World) (b c : Nat) (hc : W.cell? ⟨b, 0, none⟩ = some (.string s)) => natmay_any s b c W hs hc)
  obtain ⟨N, hN⟩ : ∃ N, N = natB s.data.toList := ⟨_, rfl⟩
  rw [← hN] at CM
  rw [show natI s.data.toList = if N then 0 else 2 by rw [hN]; rfl]
  clear hN
  cases N with
  | true =>
    go_enter Tryz.func230, Tryz.ntmps230
    go_wp2_with (go_at_call 265; refine (CM.out _ _ _ (by simp)).mono ?_; rintro e w1 ⟨rfl, rfl⟩)
    go_ret
    exact ⟨rfl, (Below.refl _ _).alloc (Nat.le_refl _) _⟩
  | false =>
    go_enter Tryz.func230, Tryz.ntmps230
    go_wp2_with (go_at_call 265; refine (CM.out _ _ _ (by simp)).mono ?_; rintro e w1 ⟨rfl, rfl⟩)
    go_ret
    exact ⟨rfl, (Below.refl _ _).alloc (Nat.le_refl _) _⟩

/-! ### Dyads, complex numbers -/
structure DyD where
  neg : Bool
  n : ByteArray
  e : Int
def DyD.ok (d : DyD) : Prop := d.n.size ≤ maxLen ∧ -9223372036854775808 ≤ d.e ∧ d.e ≤ 9223372036854775807
def DyD.cells (d : DyD) : List Value := [.bool d.neg, .string d.n, .int .i64 d.e]
def dyadB (d : DyD) : Bool := (!d.neg && (decide (d.n.data.toList = []) && decide (d.e = 0))) ||
  (!decide (d.n.data.toList = []) && (natB d.n.data.toList && (!decide ((d.n.data.toList.getLast?.getD 0).toNat % 2 = 0) && (decide (-1048576 ≤ d.e) && decide (d.e ≤ 1048576)))))
def dyadI (d : DyD) : Int := if dyadB d then 0 else 2
theorem last_data (s : ByteArray) (h : 0 < s.size) : s.data.toList.getLast? = some (s[s.size - 1]'(by omega)) := by
  obtain ⟨⟨l⟩⟩ := s
  show l.getLast? = _
  rw [List.getLast?_eq_getElem?]
  have hl : 0 < l.length := h
  rw [List.getElem?_eq_getElem (by omega)]
  rfl

set_option maxRecDepth 100000 in
set_option maxHeartbeats 1600000 in
theorem dyadcheck_any (d : DyD) (w : World) (hd : d.ok) : Calls Tryz.prog 177 #[.agg #[.bool d.neg, .string d.n, .int .i64 d.e]] w fun e w' => e = .returned (.int .i64 (dyadI d)) ∧ Kept w w' := by
  obtain ⟨neg, s, x⟩ := d
  obtain ⟨hs, hx0, hx1⟩ := hd
  have CN := hide (fun (W : World) => natcheck_any s W hs)
  simp only at hs hx0 hx1 ⊢
  by_cases h0 : s.size = 0
  · have hE := empty_of_size s h0
    subst hE
    by_cases hx : x = 0
    · subst hx
      cases neg with
      | false =>
        go_enter Tryz.func177, Tryz.ntmps177
        go_wp2
        go_ret
        exact ⟨rfl, (Below.refl _ _).alloc (Nat.le_refl _) _⟩
      | true =>
        go_enter Tryz.func177, Tryz.ntmps177
        go_wp2
        go_ret
        exact ⟨rfl, (Below.refl _ _).alloc (Nat.le_refl _) _⟩
    · have HX := hide hx
      go_enter Tryz.func177, Tryz.ntmps177
      go_wp2
      go_ret
      exact ⟨int_ret (by simp [dyadI, dyadB, HX.out]), (Below.refl _ _).alloc (Nat.le_refl _) _⟩
  · have hp : 0 < s.size := by omega
    have hd0 : s.data.toList ≠ [] := by
      intro h; exact h0 (by rw [← ByteArray.size_data, ← Array.length_toList, h]; rfl)
    have hz : s.toList = [] ↔ False := by
      rw [Lib.toList_data]
      exact ⟨fun h => hd0 h, False.elim⟩
    have hz1 : s.toList.isEmpty = false := by
      cases h : s.toList with
      | nil => exact (hz.1 h).elim
      | cons x l => rfl
    have hne : s ≠ ⟨#[]⟩ := fun h => h0 (by rw [h]; rfl)
    have hpI : (0 : Int) < s.size := by omega
    have k1 : (0 : Int) ≤ (s.size : Int) - 1 := by omega
    have k2 : (s.size : Int) - 1 < s.size := by omega
    have k3 : ((s.size : Int) - 1).toNat = s.size - 1 := by omega
    have k4 : IntKind.i64.wrap ((s.size : Int) - 1) = (s.size : Int) - 1 := IntWalk.i64_in _ (by unfold maxLen at hs; omega)
    have k5 : s.size - 1 < s.size := by omega
    have HD : Hid (dyadI ⟨neg, s, x⟩ = if natB s.data.toList && (!decide ((s[s.size - 1]'k5).toNat % 2 = 0) && (decide (-1048576 ≤ x) && decide (x ≤ 1048576))) then 0 else 2) := by
      show _ = _
      simp [dyadI, dyadB, hd0, last_data s hp]
    obtain ⟨y, hy⟩ : ∃ y, s[s.size - 1]'k5 = y := ⟨_, rfl⟩
    rw [hy] at HD
    cases hn : natB s.data.toList with
    | false =>
      rw [show natI s.data.toList = 2 by simp [natI, hn]] at CN
      rw [hn] at HD
      clear hn hd0
      go_enter Tryz.func177, Tryz.ntmps177
      go_wp2_with (go_at_call 230; refine (CN.out _).mono ?_; rintro e w1 ⟨rfl, hk1⟩; have K1 := hide (((Below.refl _ w).alloc (Nat.le_refl _) (.cells #[.bool neg, .string s, .int .i64 x] 25)).trans (hk1.mono (by simp))); have c1 := (hk1.cells w.heap.size 1 (by simp)); have c2 := (hk1.cells w.heap.size 2 (by simp)); simp at c1 c2; have hz5 := lt_of_cell c1; clear hk1)
      go_ret
      exact ⟨int_ret (by rw [HD.out]; rfl), K1.out⟩
    | true =>
      rw [show natI s.data.toList = 0 by simp [natI, hn]] at CN
      rw [hn] at HD
      clear hn hd0
      go_enter Tryz.func177, Tryz.ntmps177
      go_wp2_with (go_at_call 230; refine (CN.out _).mono ?_; rintro e w1 ⟨rfl, hk1⟩; have K1 := hide (((Below.refl _ w).alloc (Nat.le_refl _) (.cells #[.bool neg, .string s, .int .i64 x] 25)).trans (hk1.mono (by simp))); have c1 := (hk1.cells w.heap.size 1 (by simp)); have c2 := (hk1.cells w.heap.size 2 (by simp)); simp at c1 c2; have hz5 := lt_of_cell c1; clear hk1)
      all_goals
        go_ret
        refine ⟨int_ret ?_, K1.out⟩
        rw [HD.out]
        simp only [beq_iff_eq, beq_eq_false_iff_ne, ne_eq] at *
        split
        · rename_i hq; simp at hq; first | rfl | omega
        · rename_i hq; simp at hq; first | rfl | omega

/-! ### Exact complex numbers; windows; grids -/
def gaussI (p q : DyD) : Int := if dyadB p && dyadB q then 0 else 2
set_option maxRecDepth 100000 in
set_option maxHeartbeats 800000 in
theorem gausscheck_any (p q : DyD) (w : World) (hp : p.ok) (hq : q.ok) :
    Calls Tryz.prog 119 #[.agg #[.bool p.neg, .string p.n, .int .i64 p.e, .bool q.neg, .string q.n, .int .i64 q.e]] w fun e w' => e = .returned (.int .i64 (gaussI p q)) ∧ Kept w w' := by
  have CP := hide (fun (W : World) => dyadcheck_any p W hp)
  have CQ := hide (fun (W : World) => dyadcheck_any q W hq)
  clear hp hq
  cases hp : dyadB p with
  | false =>
    rw [show dyadI p = 2 by simp [dyadI, hp]] at CP
    have HP := hide hp
    clear hp
    go_enter Tryz.func119, Tryz.ntmps119
    go_wp2_with (go_at_call 177; refine (CP.out _).mono ?_; rintro e w1 ⟨rfl, hk1⟩)
    go_ret
    exact ⟨int_ret (by simp [gaussI, HP.out]), ((Below.refl _ w).alloc (Nat.le_refl _) _).trans (hk1.mono (by simp))⟩
  | true =>
    rw [show dyadI p = 0 by simp [dyadI, hp]] at CP
    have HP := hide hp
    clear hp
    cases hq : dyadB q with
    | false =>
      rw [show dyadI q = 2 by simp [dyadI, hq]] at CQ
      have HQ := hide hq
      clear hq
      go_enter Tryz.func119, Tryz.ntmps119
      go_wp2_with fail
      refine (CP.out _).mono ?_
      rintro e w1 ⟨rfl, hk1⟩
      have c3 := (hk1.cells w.heap.size 3 (by simp))
      have c4 := (hk1.cells w.heap.size 4 (by simp))
      have c5 := (hk1.cells w.heap.size 5 (by simp))
      simp at c3 c4 c5
      have hz5 := lt_of_cell c3
      have K1 := hide (((Below.refl _ w).alloc (Nat.le_refl _) (.cells #[.bool p.neg, .string p.n, .int .i64 p.e, .bool q.neg, .string q.n, .int .i64 q.e] 27)).trans (hk1.mono (by simp)))
      clear hk1
      go_wp2_with fail
      refine (CQ.out _).mono ?_
      rintro e w2 ⟨rfl, hk2⟩
      go_wp2_with fail
      go_ret
      exact ⟨int_ret (by simp [gaussI, HQ.out]), K1.out.trans (hk2.mono K1.out.size)⟩
    | true =>
      rw [show dyadI q = 0 by simp [dyadI, hq]] at CQ
      have HQ := hide hq
      clear hq
      go_enter Tryz.func119, Tryz.ntmps119
      go_wp2_with fail
      refine (CP.out _).mono ?_
      rintro e w1 ⟨rfl, hk1⟩
      have c3 := (hk1.cells w.heap.size 3 (by simp))
      have c4 := (hk1.cells w.heap.size 4 (by simp))
      have c5 := (hk1.cells w.heap.size 5 (by simp))
      simp at c3 c4 c5
      have hz5 := lt_of_cell c3
      have K1 := hide (((Below.refl _ w).alloc (Nat.le_refl _) (.cells #[.bool p.neg, .string p.n, .int .i64 p.e, .bool q.neg, .string q.n, .int .i64 q.e] 27)).trans (hk1.mono (by simp)))
      clear hk1
      go_wp2_with fail
      refine (CQ.out _).mono ?_
      rintro e w2 ⟨rfl, hk2⟩
      go_wp2_with fail
      go_ret
      exact ⟨int_ret (by simp [gaussI, HP.out, HQ.out]), K1.out.trans (hk2.mono K1.out.size)⟩
end Go.Proofs.YtneakieigiafpaaGreatDoor

/- Windows and grids: view.side, view.count, view.Check, tile.counted, tile.Check, tile.Count, tile.rect, tile.Rect, walked. -/
namespace Go.Proofs.YtneakieigiafpaaGreatDoor
open Go.RowKit

structure GrD where
  re : DyD
  im : DyD
  exp : Int
  across : Int
  down : Int
  wide : Int
  high : Int
def in64 (x : Int) : Prop := -9223372036854775808 ≤ x ∧ x ≤ 9223372036854775807
structure GrD.ok (g : GrD) : Prop where
  re : g.re.ok
  im : g.im.ok
  exp : in64 g.exp
  across : in64 g.across
  down : in64 g.down
  wide : in64 g.wide
  high : in64 g.high
def viewB (g : GrD) : Bool := (dyadB g.re && dyadB g.im) && (decide (-4096 ≤ g.exp ∧ g.exp ≤ 4096) && (decide (1 ≤ g.across ∧ g.across ≤ 65536) && decide (1 ≤ g.down ∧ g.down ≤ 65536)))
def gridA (g : GrD) : Int := (g.across + g.wide - 1) / g.wide
def gridD (g : GrD) : Int := (g.down + g.high - 1) / g.high
def cellsB (g : GrD) : Bool := decide (1 ≤ g.wide ∧ 1 ≤ g.high ∧ g.wide ≤ 65536 ∧ g.high ≤ 65536 ∧ g.wide * g.high ≤ 65536)
def gridI (g : GrD) : Int := if viewB g then (if cellsB g then (if gridA g * gridD g ≤ 65536 then 0 else 2) else 2) else 240

set_option maxHeartbeats 400000 in
theorem side_any (n : Int) (w : World) : Calls Tryz.prog 120 #[.int .i64 n] w fun e w' => e = .returned (.bool (decide (-4096 ≤ n ∧ n ≤ 4096))) ∧ w = w' := by
  by_cases h1 : -4096 ≤ n
  · go_enter Tryz.func120, Tryz.ntmps120
    go_wp2
    go_ret
    exact ⟨by simp [h1], rfl⟩
  · go_enter Tryz.func120, Tryz.ntmps120
    go_wp2
    go_ret
    exact ⟨by simp; omega, rfl⟩
set_option maxHeartbeats 400000 in
theorem vcount_any (n : Int) (w : World) : Calls Tryz.prog 121 #[.int .i64 n] w fun e w' => e = .returned (.bool (decide (1 ≤ n ∧ n ≤ 65536))) ∧ w = w' := by
  by_cases h1 : 1 ≤ n
  · go_enter Tryz.func121, Tryz.ntmps121
    go_wp2
    go_ret
    exact ⟨by simp [h1], rfl⟩
  · go_enter Tryz.func121, Tryz.ntmps121
    go_wp2
    go_ret
    exact ⟨by simp; omega, rfl⟩


set_option maxRecDepth 100000 in
set_option maxHeartbeats 1600000 in
theorem viewcheck_any (g : GrD) (w : World) (hg : g.ok) : Calls Tryz.prog 57 #[.agg #[.bool g.re.neg, .string g.re.n, .int .i64 g.re.e, .bool g.im.neg, .string g.im.n, .int .i64 g.im.e, .int .i64 g.exp, .int .i64 g.across, .int .i64 g.down]] w fun e w' => e = .returned (.int .i64 (if viewB g then 0 else 240)) ∧ Kept w w' := by
  have CG := hide (fun (W : World) => gausscheck_any g.re g.im W hg.re hg.im)
  cases h0 : (dyadB g.re && dyadB g.im) with
  | false =>
    rw [show gaussI g.re g.im = 2 by simp only [gaussI, h0]; rfl] at CG
    rw [show viewB g = false by simp only [viewB, h0, Bool.false_and]]
    clear h0 hg
    go_enter Tryz.func57, Tryz.ntmps57
    go_wp2_with (go_at_call 119; refine (CG.out _).mono ?_; rintro e w1 ⟨rfl, hk1⟩)
    go_ret
    exact ⟨rfl, ((Below.refl _ w).alloc (Nat.le_refl _) _).trans (hk1.mono (by simp))⟩
  | true =>
    rw [show gaussI g.re g.im = 0 by simp only [gaussI, h0]; rfl] at CG
    have CS := hide (fun (W : World) => side_any g.exp W)
    have C1 := hide (fun (W : World) => vcount_any g.across W)
    have C2 := hide (fun (W : World) => vcount_any g.down W)
    obtain ⟨s, hs⟩ : ∃ s, s = decide (-4096 ≤ g.exp ∧ g.exp ≤ 4096) := ⟨_, rfl⟩
    obtain ⟨x, hx⟩ : ∃ s, s = decide (1 ≤ g.across ∧ g.across ≤ 65536) := ⟨_, rfl⟩
    obtain ⟨y, hy⟩ : ∃ s, s = decide (1 ≤ g.down ∧ g.down ≤ 65536) := ⟨_, rfl⟩
    rw [show viewB g = (s && (x && y)) by rw [viewB, h0, hs, hx, hy, Bool.true_and]]
    rw [← hs] at CS
    rw [← hx] at C1
    rw [← hy] at C2
    clear h0 hg hs hx hy
    go_enter Tryz.func57, Tryz.ntmps57
    go_wp2_with fail
    refine (CG.out _).mono ?_
    rintro e w1 ⟨rfl, hk1⟩
    have c6 := (hk1.cells w.heap.size 6 (by simp))
    have c7 := (hk1.cells w.heap.size 7 (by simp))
    have c8 := (hk1.cells w.heap.size 8 (by simp))
    simp at c6 c7 c8
    have hz5 := lt_of_cell c6
    have K1 := hide (((Below.refl _ w).alloc (Nat.le_refl _) (.cells #[.bool g.re.neg, .string g.re.n, .int .i64 g.re.e, .bool g.im.neg, .string g.im.n, .int .i64 g.im.e, .int .i64 g.exp, .int .i64 g.across, .int .i64 g.down] 29)).trans (hk1.mono (by simp)))
    clear hk1
    cases s with
    | false =>
      go_wp2_with (go_at_call 120; refine (CS.out _).mono ?_; rintro e w2 ⟨rfl, rfl⟩)
      go_ret
      exact ⟨rfl, K1.out⟩
    | true =>
      cases x with
      | false =>
        go_wp2_with (first
          | (go_at_call 120; refine (CS.out _).mono ?_; rintro e w2 ⟨rfl, rfl⟩)
          | (go_at_call 121; refine (C1.out _).mono ?_; rintro e w2 ⟨rfl, rfl⟩))
        go_ret
        exact ⟨rfl, K1.out⟩
      | true =>
        cases y with
        | false =>
          go_wp2_with (go_at_call 120; refine (CS.out _).mono ?_; rintro e w2 ⟨rfl, rfl⟩)
          refine (C1.out _).mono ?_
          rintro e w2 ⟨rfl, rfl⟩
          go_wp2_with fail
          refine (C2.out _).mono ?_
          rintro e w2 ⟨rfl, rfl⟩
          go_wp2_with fail
          go_ret
          exact ⟨rfl, K1.out⟩
        | true =>
          go_wp2_with (go_at_call 120; refine (CS.out _).mono ?_; rintro e w2 ⟨rfl, rfl⟩)
          refine (C1.out _).mono ?_
          rintro e w2 ⟨rfl, rfl⟩
          go_wp2_with fail
          refine (C2.out _).mono ?_
          rintro e w2 ⟨rfl, rfl⟩
          go_wp2_with fail
          go_ret
          exact ⟨rfl, K1.out⟩


structure GrBnd (g : GrD) : Prop where
  a0 : 1 ≤ g.across
  a1 : g.across ≤ 65536
  d0 : 1 ≤ g.down
  d1 : g.down ≤ 65536
  w0 : 1 ≤ g.wide
  w1 : g.wide ≤ 65536
  h0 : 1 ≤ g.high
  h1 : g.high ≤ 65536
theorem viewB_bnd {g : GrD} (h : viewB g = true) : 1 ≤ g.across ∧ g.across ≤ 65536 ∧ 1 ≤ g.down ∧ g.down ≤ 65536 := by
  simp only [viewB, Bool.and_eq_true, decide_eq_true_eq] at h
  exact ⟨h.2.2.1.1, h.2.2.1.2, h.2.2.2.1, h.2.2.2.2⟩
theorem grid_bnd {g : GrD} (h : viewB g = true) (hc : cellsB g = true) : GrBnd g := by
  obtain ⟨h1, h2, h3, h4⟩ := viewB_bnd h
  simp only [cellsB, decide_eq_true_eq] at hc
  exact ⟨h1, h2, h3, h4, hc.1, hc.2.2.1, hc.2.1, hc.2.2.2.1⟩
theorem quo_bnd {x y : Int} (h0 : 1 ≤ x) (h1 : x ≤ 65536) (h2 : 1 ≤ y) : 1 ≤ (x + y - 1) / y ∧ (x + y - 1) / y ≤ x := by
  refine ⟨(Int.le_ediv_iff_mul_le (by omega)).2 (by omega), ?_⟩
  have h3 : 0 ≤ (x - 1) * (y - 1) := Int.mul_nonneg (by omega) (by omega)
  rw [Int.sub_mul, Int.mul_sub] at h3
  have h4 : x + y - 1 < (x + 1) * y := by rw [Int.add_mul]; omega
  have := Int.ediv_lt_of_lt_mul (show 0 < y by omega) h4
  omega
theorem GrBnd.gA {g : GrD} (h : GrBnd g) : 1 ≤ gridA g ∧ gridA g ≤ 65536 := by
  have := quo_bnd h.a0 h.a1 h.w0
  have h2 := h.a1
  unfold gridA; omega
theorem GrBnd.gD {g : GrD} (h : GrBnd g) : 1 ≤ gridD g ∧ gridD g ≤ 65536 := by
  have := quo_bnd h.d0 h.d1 h.h0
  have h2 := h.d1
  unfold gridD; omega

set_option maxRecDepth 100000 in
set_option maxHeartbeats 1600000 in
theorem counted_any (g : GrD) (w : World) (hg : GrBnd g) : Calls Tryz.prog 58 #[.agg #[.bool g.re.neg, .string g.re.n, .int .i64 g.re.e, .bool g.im.neg, .string g.im.n, .int .i64 g.im.e, .int .i64 g.exp, .int .i64 g.across, .int .i64 g.down, .int .i64 g.wide, .int .i64 g.high]] w fun e w' => e = .returned (.tuple #[.int .i64 (gridA g), .int .i64 (gridD g)]) ∧ Kept w w' := by
  obtain ⟨a0, a1, d0, d1, w0, w1, h0, h1⟩ := hg
  have e1 : IntKind.i64.wrap (g.across + g.wide) = g.across + g.wide := IntWalk.i64_in _ (by omega)
  have e2 : IntKind.i64.wrap (g.across + g.wide - 1) = g.across + g.wide - 1 := IntWalk.i64_in _ (by omega)
  have e3 : IntKind.i64.wrap (g.down + g.high) = g.down + g.high := IntWalk.i64_in _ (by omega)
  have e4 : IntKind.i64.wrap (g.down + g.high - 1) = g.down + g.high - 1 := IntWalk.i64_in _ (by omega)
  have q1 := quo_bnd a0 a1 w0
  have q2 := quo_bnd d0 d1 h0
  have n1 : (g.wide == 0) = false := by simp; omega
  have n2 : (g.high == 0) = false := by simp; omega
  have n3 : 0 ≤ g.across + g.wide - 1 := by omega
  have n4 : 0 ≤ g.down + g.high - 1 := by omega
  have t1 : Int.tdiv (g.across + g.wide - 1) g.wide = gridA g := Int.tdiv_eq_ediv_of_nonneg n3
  have t2 : Int.tdiv (g.down + g.high - 1) g.high = gridD g := Int.tdiv_eq_ediv_of_nonneg n4
  have t3 : IntKind.i64.wrap (gridA g) = gridA g := IntWalk.i64_in _ (by unfold gridA; omega)
  have t4 : IntKind.i64.wrap (gridD g) = gridD g := IntWalk.i64_in _ (by unfold gridD; omega)
  clear q1 q2
  go_enter Tryz.func58, Tryz.ntmps58
  go_wp2_with fail
  go_quiet (fail)
  go_wp2_with fail
  go_ret2
  exact ⟨rfl, drewN_below ((Below.refl _ _).alloc (Nat.le_refl _) _) _⟩

set_option maxRecDepth 100000 in
set_option maxHeartbeats 3200000 in
theorem tcheck_any (g : GrD) (w : World) (hg : g.ok) : Calls Tryz.prog 18 #[.agg #[.bool g.re.neg, .string g.re.n, .int .i64 g.re.e, .bool g.im.neg, .string g.im.n, .int .i64 g.im.e, .int .i64 g.exp, .int .i64 g.across, .int .i64 g.down, .int .i64 g.wide, .int .i64 g.high]] w fun e w' => e = .returned (.int .i64 (gridI g)) ∧ Kept w w' := by
  have CV := hide (fun (W : World) => viewcheck_any g W hg)
  cases hv : viewB g with
  | false =>
    rw [hv] at CV
    rw [show gridI g = 240 by simp [gridI, hv]]
    clear hv hg
    go_enter Tryz.func18, Tryz.ntmps18
    go_wp2_with (go_at_call 57; refine (CV.out _).mono ?_; rintro e w1 ⟨rfl, hk1⟩)
    go_ret
    exact ⟨rfl, ((Below.refl _ w).alloc (Nat.le_refl _) _).trans (hk1.mono (by simp))⟩
  | true =>
    rw [hv] at CV
    have hb := viewB_bnd hv
    obtain ⟨w0, w1⟩ := hg.wide
    obtain ⟨h0, h1⟩ := hg.high
    have BX : Hid (∀ W, Kept (w.alloc (.cells #[.bool g.re.neg, .string g.re.n, .int .i64 g.re.e, .bool g.im.neg, .string g.im.n, .int .i64 g.im.e, .int .i64 g.exp, .int .i64 g.across, .int .i64 g.down, .int .i64 g.wide, .int .i64 g.high] 31)) W → W.cell? ⟨w.heap.size, 9, none⟩ = some (.int .i64 g.wide) ∧ W.cell? ⟨w.heap.size, 10, none⟩ = some (.int .i64 g.high)) := fun W hW => ⟨(hW.cells w.heap.size 9 (by simp)).trans (by simp), (hW.cells w.heap.size 10 (by simp)).trans (by simp)⟩
    by_cases hc : 1 ≤ g.wide ∧ 1 ≤ g.high ∧ g.wide ≤ 65536 ∧ g.high ≤ 65536
    · obtain ⟨c1, c2, c3, c4⟩ := hc
      have m1 : 0 ≤ g.wide * g.high := Int.mul_nonneg (by omega) (by omega)
      have m2 : g.wide * g.high ≤ 65536 * 65536 := Int.mul_le_mul c3 c4 (by omega) (by omega)
      have s1 : ¬ g.wide < 1 := by omega
      have s2 : ¬ g.high < 1 := by omega
      have s3 : ¬ 65536 < g.wide := by omega
      have s4 : ¬ 65536 < g.high := by omega
      by_cases hm : g.wide * g.high ≤ 65536
      · have hB : cellsB g = true := by simp only [cellsB, decide_eq_true_eq]; exact ⟨c1, c2, c3, c4, hm⟩
        have hG := grid_bnd hv hB
        have s5 : ¬ 65536 < g.wide * g.high := by omega
        have CC := hide (fun (W : World) => counted_any g W hG)
        obtain ⟨ga0, ga1⟩ := hG.gA
        obtain ⟨gd0, gd1⟩ := hG.gD
        have p1 : 0 ≤ gridA g * gridD g := Int.mul_nonneg (by omega) (by omega)
        have p2 : gridA g * gridD g ≤ 65536 * 65536 := Int.mul_le_mul ga1 gd1 (by omega) (by omega)
        have HI : Hid (gridI g = if gridA g * gridD g ≤ 65536 then 0 else 2) := by show _ = _; simp [gridI, hv, hB]
        have BA : Hid (∀ W, Kept (w.alloc (.cells #[.bool g.re.neg, .string g.re.n, .int .i64 g.re.e, .bool g.im.neg, .string g.im.n, .int .i64 g.im.e, .int .i64 g.exp, .int .i64 g.across, .int .i64 g.down, .int .i64 g.wide, .int .i64 g.high] 31)) W → W.cell? ⟨w.heap.size, 0, none⟩ = some (.bool g.re.neg) ∧ W.cell? ⟨w.heap.size, 1, none⟩ = some (.string g.re.n) ∧ W.cell? ⟨w.heap.size, 2, none⟩ = some (.int .i64 g.re.e) ∧ W.cell? ⟨w.heap.size, 3, none⟩ = some (.bool g.im.neg) ∧ W.cell? ⟨w.heap.size, 4, none⟩ = some (.string g.im.n) ∧ W.cell? ⟨w.heap.size, 5, none⟩ = some (.int .i64 g.im.e) ∧ W.cell? ⟨w.heap.size, 6, none⟩ = some (.int .i64 g.exp) ∧ W.cell? ⟨w.heap.size, 7, none⟩ = some (.int .i64 g.across) ∧ W.cell? ⟨w.heap.size, 8, none⟩ = some (.int .i64 g.down) ∧ W.cell? ⟨w.heap.size, 9, none⟩ = some (.int .i64 g.wide) ∧ W.cell? ⟨w.heap.size, 10, none⟩ = some (.int .i64 g.high)) := fun W hW => ⟨(hW.cells w.heap.size 0 (by simp)).trans (by simp), (hW.cells w.heap.size 1 (by simp)).trans (by simp), (hW.cells w.heap.size 2 (by simp)).trans (by simp), (hW.cells w.heap.size 3 (by simp)).trans (by simp), (hW.cells w.heap.size 4 (by simp)).trans (by simp), (hW.cells w.heap.size 5 (by simp)).trans (by simp), (hW.cells w.heap.size 6 (by simp)).trans (by simp), (hW.cells w.heap.size 7 (by simp)).trans (by simp), (hW.cells w.heap.size 8 (by simp)).trans (by simp), (hW.cells w.heap.size 9 (by simp)).trans (by simp), (hW.cells w.heap.size 10 (by simp)).trans (by simp)⟩
        generalize gridA g = ga at *
        generalize gridD g = gd at *
        clear hv hg hB hG hb BX
        go_enter Tryz.func18, Tryz.ntmps18
        go_wp2_with fail
        refine (CV.out _).mono ?_
        rintro e w1 ⟨rfl, hk1⟩
        obtain ⟨q0, q1, q2, q3, q4, q5, q6, q7, q8, q9, q10⟩ := BA.out w1 hk1
        have hz1 := lt_of_cell q0
        have K1 := hide (((Below.refl _ w).alloc (Nat.le_refl _) (.cells #[.bool g.re.neg, .string g.re.n, .int .i64 g.re.e, .bool g.im.neg, .string g.im.n, .int .i64 g.im.e, .int .i64 g.exp, .int .i64 g.across, .int .i64 g.down, .int .i64 g.wide, .int .i64 g.high] 31)).trans (hk1.mono (by simp)))
        clear hk1
        go_wp2_with fail
        refine (CC.out _).mono ?_
        rintro e w2 ⟨rfl, hk2⟩
        have K2 := hide (K1.out.trans (hk2.mono K1.out.size))
        clear hk2 q0 q1 q2 q3 q4 q5 q6 q7 q8 q9 q10
        go_wp2_with fail
        all_goals
          go_ret
          refine ⟨int_ret ?_, K2.out⟩
          rw [HI.out]
          split <;> first | rfl | omega
      · have s5 : 65536 < g.wide * g.high := by omega
        have HI : Hid (gridI g = 2) := by
          show _ = _
          rw [gridI, hv, if_pos rfl, if_neg]
          intro h; simp only [cellsB, decide_eq_true_eq] at h; exact hm h.2.2.2.2
        clear hv hg hm hb
        go_enter Tryz.func18, Tryz.ntmps18
        go_wp2_with (go_at_call 57; refine (CV.out _).mono ?_; rintro e w1 ⟨rfl, hk1⟩; obtain ⟨q9, q10⟩ := BX.out w1 hk1; have K1 := hide (((Below.refl _ w).alloc (Nat.le_refl _) (.cells #[.bool g.re.neg, .string g.re.n, .int .i64 g.re.e, .bool g.im.neg, .string g.im.n, .int .i64 g.im.e, .int .i64 g.exp, .int .i64 g.across, .int .i64 g.down, .int .i64 g.wide, .int .i64 g.high] 31)).trans (hk1.mono (by simp))); clear hk1)
        go_ret
        exact ⟨int_ret HI.out.symm, K1.out⟩
    · have HC := hide hc
      have HI : Hid (gridI g = 2) := by
        show _ = _
        rw [gridI, hv, if_pos rfl, if_neg]
        intro h; simp only [cellsB, decide_eq_true_eq] at h; exact hc ⟨h.1, h.2.1, h.2.2.1, h.2.2.2.1⟩
      clear hv hg hc hb
      go_enter Tryz.func18, Tryz.ntmps18
      go_wp2_with (go_at_call 57; refine (CV.out _).mono ?_; rintro e w1 ⟨rfl, hk1⟩; obtain ⟨q9, q10⟩ := BX.out w1 hk1; have K1 := hide (((Below.refl _ w).alloc (Nat.le_refl _) (.cells #[.bool g.re.neg, .string g.re.n, .int .i64 g.re.e, .bool g.im.neg, .string g.im.n, .int .i64 g.im.e, .int .i64 g.exp, .int .i64 g.across, .int .i64 g.down, .int .i64 g.wide, .int .i64 g.high] 31)).trans (hk1.mono (by simp))); clear hk1)
      all_goals first
        | (exfalso; have := HC.out; omega)
        | (go_ret; exact ⟨int_ret HI.out.symm, K1.out⟩)


def cntA (g : GrD) : Int := if gridI g = 0 then gridA g else 0
def cntD (g : GrD) : Int := if gridI g = 0 then gridD g else 0
theorem gridI_ok {g : GrD} (h : gridI g = 0) : GrBnd g ∧ gridA g * gridD g ≤ 65536 := by
  cases hv : viewB g with
  | false => simp [gridI, hv] at h
  | true =>
    cases hc : cellsB g with
    | false => simp [gridI, hv, hc] at h
    | true =>
      refine ⟨grid_bnd hv hc, ?_⟩
      simp only [gridI, hv, hc, if_true] at h
      split at h
      · assumption
      · omega

set_option maxRecDepth 100000 in
set_option maxHeartbeats 1600000 in
theorem tcount_any (g : GrD) (w : World) (hg : g.ok) : Calls Tryz.prog 19 #[.agg #[.bool g.re.neg, .string g.re.n, .int .i64 g.re.e, .bool g.im.neg, .string g.im.n, .int .i64 g.im.e, .int .i64 g.exp, .int .i64 g.across, .int .i64 g.down, .int .i64 g.wide, .int .i64 g.high]] w fun e w' => e = .returned (.tuple #[.int .i64 (cntA g), .int .i64 (cntD g), .int .i64 (gridI g)]) ∧ Kept w w' := by
  have CV := hide (fun (W : World) => tcheck_any g W hg)
  by_cases hI : gridI g = 0
  · obtain ⟨hB, hm⟩ := gridI_ok hI
    have CC := hide (fun (W : World) => counted_any g W hB)
    rw [show cntA g = gridA g by simp [cntA, hI], show cntD g = gridD g by simp [cntD, hI], hI]
    rw [hI] at CV
    have BA : Hid (∀ W, Kept (w.alloc (.cells #[.bool g.re.neg, .string g.re.n, .int .i64 g.re.e, .bool g.im.neg, .string g.im.n, .int .i64 g.im.e, .int .i64 g.exp, .int .i64 g.across, .int .i64 g.down, .int .i64 g.wide, .int .i64 g.high] 31)) W → W.cell? ⟨w.heap.size, 0, none⟩ = some (.bool g.re.neg) ∧ W.cell? ⟨w.heap.size, 1, none⟩ = some (.string g.re.n) ∧ W.cell? ⟨w.heap.size, 2, none⟩ = some (.int .i64 g.re.e) ∧ W.cell? ⟨w.heap.size, 3, none⟩ = some (.bool g.im.neg) ∧ W.cell? ⟨w.heap.size, 4, none⟩ = some (.string g.im.n) ∧ W.cell? ⟨w.heap.size, 5, none⟩ = some (.int .i64 g.im.e) ∧ W.cell? ⟨w.heap.size, 6, none⟩ = some (.int .i64 g.exp) ∧ W.cell? ⟨w.heap.size, 7, none⟩ = some (.int .i64 g.across) ∧ W.cell? ⟨w.heap.size, 8, none⟩ = some (.int .i64 g.down) ∧ W.cell? ⟨w.heap.size, 9, none⟩ = some (.int .i64 g.wide) ∧ W.cell? ⟨w.heap.size, 10, none⟩ = some (.int .i64 g.high)) := fun W hW => ⟨(hW.cells w.heap.size 0 (by simp)).trans (by simp), (hW.cells w.heap.size 1 (by simp)).trans (by simp), (hW.cells w.heap.size 2 (by simp)).trans (by simp), (hW.cells w.heap.size 3 (by simp)).trans (by simp), (hW.cells w.heap.size 4 (by simp)).trans (by simp), (hW.cells w.heap.size 5 (by simp)).trans (by simp), (hW.cells w.heap.size 6 (by simp)).trans (by simp), (hW.cells w.heap.size 7 (by simp)).trans (by simp), (hW.cells w.heap.size 8 (by simp)).trans (by simp), (hW.cells w.heap.size 9 (by simp)).trans (by simp), (hW.cells w.heap.size 10 (by simp)).trans (by simp)⟩
    clear hI hB hm hg
    go_enter Tryz.func19, Tryz.ntmps19
    go_wp2_with fail
    refine (CV.out _).mono ?_
    rintro e w1 ⟨rfl, hk1⟩
    obtain ⟨q0, q1, q2, q3, q4, q5, q6, q7, q8, q9, q10⟩ := BA.out w1 hk1
    have hz1 := lt_of_cell q0
    have K1 := hide (((Below.refl _ w).alloc (Nat.le_refl _) (.cells #[.bool g.re.neg, .string g.re.n, .int .i64 g.re.e, .bool g.im.neg, .string g.im.n, .int .i64 g.im.e, .int .i64 g.exp, .int .i64 g.across, .int .i64 g.down, .int .i64 g.wide, .int .i64 g.high] 31)).trans (hk1.mono (by simp)))
    clear hk1
    go_wp2_with fail
    refine (CC.out _).mono ?_
    rintro e w2 ⟨rfl, hk2⟩
    go_wp2_with fail
    go_ret3
    exact ⟨rfl, K1.out.trans (hk2.mono K1.out.size)⟩
  · rw [show cntA g = 0 by simp [cntA, hI], show cntD g = 0 by simp [cntD, hI]]
    have hne : (gridI g != 0) = true := by simp [hI]
    obtain ⟨E, hE⟩ : ∃ E, E = gridI g := ⟨_, rfl⟩
    rw [← hE] at CV hne ⊢
    clear hI hE hg
    go_enter Tryz.func19, Tryz.ntmps19
    go_wp2_with (go_at_call 18; refine (CV.out _).mono ?_; rintro e w1 ⟨rfl, hk1⟩)
    go_ret3
    exact ⟨rfl, ((Below.refl _ w).alloc (Nat.le_refl _) _).trans (hk1.mono (by simp))⟩


end Go.Proofs.YtneakieigiafpaaGreatDoor

/- tile.rect, walked. -/
namespace Go.Proofs.YtneakieigiafpaaGreatDoor
open Go.RowKit

theorem fresh_frozen (w : World) (cs : Array Value) (t : TypeId) (o : Nat) : (w.alloc (.cells cs t)).frozen? ⟨w.heap.size, o, none⟩ = false := by
  have hh : (w.alloc (.cells cs t)).heap[w.heap.size]? = some (.cells cs t (0, 0)) := by
    show (w.heap.push _)[w.heap.size]? = _
    simp
  simp only [World.frozen?, hh]; rfl
theorem rect_kept {w w1 : World} {b : Nat} {o : Obj} {x0 x1 x2 x3 : Value} (h : Kept w w1) (hb : w.heap.size ≤ b) : Kept w (((((w1.setCell ⟨b, 0, none⟩ x0).setCell ⟨b, 1, none⟩ x1).setCell ⟨b, 2, none⟩ x2).setCell ⟨b, 3, none⟩ x3).alloc o).drew :=
  (((((h.setCell hb x0).setCell hb x1).setCell hb x2).setCell hb x3).alloc (by simpa [World.setCell] using h.size) o).drew
def rectX (g : GrD) (n : Int) : Int := n % gridA g * g.wide
def rectY (g : GrD) (n : Int) : Int := n / gridA g * g.high
def rectW (g : GrD) (n : Int) : Int := min g.wide (g.across - rectX g n)
def rectH (g : GrD) (n : Int) : Int := min g.high (g.down - rectY g n)


set_option maxRecDepth 100000 in
set_option maxHeartbeats 1600000 in
theorem rect_aa (g : GrD) (n : Int) (w : World) (hg : GrBnd g) (hn0 : 0 ≤ n) (hn1 : n < 65536) (m1 : g.wide ≤ g.across - rectX g n) (m2 : g.high ≤ g.down - rectY g n) :
    Calls Tryz.prog 59 #[.agg #[.bool g.re.neg, .string g.re.n, .int .i64 g.re.e, .bool g.im.neg, .string g.im.n, .int .i64 g.im.e, .int .i64 g.exp, .int .i64 g.across, .int .i64 g.down, .int .i64 g.wide, .int .i64 g.high], .int .i64 n] w fun e w' => e = .returned (.agg #[.int .i64 (rectX g n), .int .i64 (rectY g n), .int .i64 (rectW g n), .int .i64 (rectH g n)]) ∧ Kept w w' := by
  have CC := hide (fun (W : World) => counted_any g W hg)
  obtain ⟨ga0, ga1⟩ := hg.gA
  obtain ⟨a0, a1, d0, d1, w0, w1', h0, h1⟩ := hg
  have r1 := Int.emod_nonneg n (show gridA g ≠ 0 by omega)
  have r2 := Int.emod_lt_of_pos n (show 0 < gridA g by omega)
  have r3 : 0 ≤ n / gridA g := Int.ediv_nonneg hn0 (by omega)
  have r4 : n / gridA g ≤ n := Int.ediv_le_self _ hn0
  obtain ⟨R, hR⟩ : ∃ R, R = n % gridA g := ⟨_, rfl⟩
  obtain ⟨Q, hQ⟩ : ∃ R, R = n / gridA g := ⟨_, rfl⟩
  unfold rectX at m1
  unfold rectY at m2
  rw [← hR] at m1
  rw [← hQ] at m2
  have M1 : Hid (min g.wide (g.across - R * g.wide) = g.wide) := by show _ = _; omega
  have M2 : Hid (min g.high (g.down - Q * g.high) = g.high) := by show _ = _; omega
  have x0 : 0 ≤ R * g.wide := Int.mul_nonneg (by omega) (by omega)
  have x1 : R * g.wide ≤ 65536 * 65536 := Int.mul_le_mul (by omega) w1' (by omega) (by omega)
  have y0 : 0 ≤ Q * g.high := Int.mul_nonneg (by omega) (by omega)
  have y1 : Q * g.high ≤ 65536 * 65536 := Int.mul_le_mul (by omega) h1 (by omega) (by omega)
  have HX : Hid (rectX g n = R * g.wide) := by show _ = _; rw [rectX, hR]
  have HY : Hid (rectY g n = Q * g.high) := by show _ = _; rw [rectY, hQ]
  have HW : Hid (rectW g n = min g.wide (g.across - R * g.wide)) := by show _ = _; rw [rectW, rectX, hR]
  have HH : Hid (rectH g n = min g.high (g.down - Q * g.high)) := by show _ = _; rw [rectH, rectY, hQ]
  have t1 : Int.tmod n (gridA g) = R := by rw [hR]; exact Int.tmod_eq_emod_of_nonneg hn0
  have t2 : Int.tdiv n (gridA g) = Q := by rw [hQ]; exact Int.tdiv_eq_ediv_of_nonneg hn0
  have t3 : ¬ gridA g = 0 := by omega
  have t4 : IntKind.i64.wrap (R * g.wide) = R * g.wide := IntWalk.i64_in _ (by omega)
  have t5 : IntKind.i64.wrap (Q * g.high) = Q * g.high := IntWalk.i64_in _ (by omega)
  have t6 : IntKind.i64.wrap Q = Q := IntWalk.i64_in _ (by omega)
  have BA : Hid (∀ W, Kept ((w.alloc (.cells #[.bool g.re.neg, .string g.re.n, .int .i64 g.re.e, .bool g.im.neg, .string g.im.n, .int .i64 g.im.e, .int .i64 g.exp, .int .i64 g.across, .int .i64 g.down, .int .i64 g.wide, .int .i64 g.high] 31)).alloc (.cells #[.int .i64 0, .int .i64 0, .int .i64 0, .int .i64 0] 38)) W → W.cell? ⟨w.heap.size, 7, none⟩ = some (.int .i64 g.across) ∧ W.cell? ⟨w.heap.size, 8, none⟩ = some (.int .i64 g.down) ∧ W.cell? ⟨w.heap.size, 9, none⟩ = some (.int .i64 g.wide) ∧ W.cell? ⟨w.heap.size, 10, none⟩ = some (.int .i64 g.high)) := fun W hW => ⟨(hW.cells w.heap.size 7 (by simp; omega)).trans (by simp), (hW.cells w.heap.size 8 (by simp; omega)).trans (by simp), (hW.cells w.heap.size 9 (by simp; omega)).trans (by simp), (hW.cells w.heap.size 10 (by simp; omega)).trans (by simp)⟩
  obtain ⟨A, hA⟩ : ∃ A, A = gridA g := ⟨_, rfl⟩
  obtain ⟨D, hD⟩ : ∃ A, A = gridD g := ⟨_, rfl⟩
  rw [← hA] at t1 t2 t3 CC ga0 ga1
  rw [← hD] at CC
  clear hR hQ r1 r2 r3 r4 hA hD
  go_enter Tryz.func59, Tryz.ntmps59
  go_wp2_with fail
  refine (CC.out _).mono ?_
  rintro e w1 ⟨rfl, hk1⟩
  obtain ⟨q7, q8, q9, q10⟩ := BA.out w1 hk1
  have hz1 := lt_of_cell q7
  have RB := hide (fun (o : Nat) (v : Value) (h : ((w.alloc (.cells #[.bool g.re.neg, .string g.re.n, .int .i64 g.re.e, .bool g.im.neg, .string g.im.n, .int .i64 g.im.e, .int .i64 g.exp, .int .i64 g.across, .int .i64 g.down, .int .i64 g.wide, .int .i64 g.high] 31)).alloc (.cells #[.int .i64 0, .int .i64 0, .int .i64 0, .int .i64 0] 38)).cell? ⟨w.heap.size + 1, o, none⟩ = some v) => (hk1.cells (w.heap.size + 1) o (by simp)).trans h)
  have K1 := hide ((((Below.refl _ w).alloc (Nat.le_refl _) (.cells #[.bool g.re.neg, .string g.re.n, .int .i64 g.re.e, .bool g.im.neg, .string g.im.n, .int .i64 g.im.e, .int .i64 g.exp, .int .i64 g.across, .int .i64 g.down, .int .i64 g.wide, .int .i64 g.high] 31)).alloc (by simp) (.cells #[.int .i64 0, .int .i64 0, .int .i64 0, .int .i64 0] 38)).trans (hk1.mono (by simp; omega)))
  have HS := hide (And.intro q9 q10)
  have HQ := hide (And.intro q7 (And.intro q8 (And.intro q9 q10)))
  have HKA : Hid (∀ o, (w1.alloc o).cell? ⟨w.heap.size, 9, none⟩ = some (.int .i64 g.wide) ∧ (w1.alloc o).cell? ⟨w.heap.size, 10, none⟩ = some (.int .i64 g.high)) := fun o => ⟨(World.cell?_alloc_lt w1 _ ⟨w.heap.size, 9, none⟩ hz1).trans q9, (World.cell?_alloc_lt w1 _ ⟨w.heap.size, 10, none⟩ hz1).trans q10⟩
  have RC : Hid (w1.cell? ⟨w.heap.size + 1, 0, none⟩ = some (.int .i64 0) ∧ w1.cell? ⟨w.heap.size + 1, 1, none⟩ = some (.int .i64 0) ∧ w1.cell? ⟨w.heap.size + 1, 2, none⟩ = some (.int .i64 0) ∧ w1.cell? ⟨w.heap.size + 1, 3, none⟩ = some (.int .i64 0)) := ⟨(hk1.cells (w.heap.size + 1) 0 (by simp)).trans (by simp), (hk1.cells (w.heap.size + 1) 1 (by simp)).trans (by simp), (hk1.cells (w.heap.size + 1) 2 (by simp)).trans (by simp), (hk1.cells (w.heap.size + 1) 3 (by simp)).trans (by simp)⟩
  have hff : ∀ o, w1.frozen? ⟨w.heap.size + 1, o, none⟩ = false := fun o => (hk1.thaw (w.heap.size + 1) o (by simp)).trans (by have h9 := fresh_frozen (w.alloc (.cells #[.bool g.re.neg, .string g.re.n, .int .i64 g.re.e, .bool g.im.neg, .string g.im.n, .int .i64 g.im.e, .int .i64 g.exp, .int .i64 g.across, .int .i64 g.down, .int .i64 g.wide, .int .i64 g.high] 31)) #[.int .i64 0, .int .i64 0, .int .i64 0, .int .i64 0] 38 o; rw [World.size_alloc] at h9; exact h9)
  have RF : Hid (w1.frozen? ⟨w.heap.size + 1, 0, none⟩ = false ∧ w1.frozen? ⟨w.heap.size + 1, 1, none⟩ = false ∧ w1.frozen? ⟨w.heap.size + 1, 2, none⟩ = false ∧ w1.frozen? ⟨w.heap.size + 1, 3, none⟩ = false) := ⟨hff 0, hff 1, hff 2, hff 3⟩
  clear hk1 hff
  go_wp2_with fail
  clear q7 q8 q9 q10
  refine wp_region_L (fun X => X.cell? ⟨w.heap.size, 9, none⟩ = some (.int .i64 g.wide) ∧ X.cell? ⟨w.heap.size, 10, none⟩ = some (.int .i64 g.high)) 14 (by kernel_rfl) ?_ (fun hHeld => ?_)
  · first | exact HS.out | assumption | exact HKA.out _
  refine wpAnyL_take (i := 0) (v := ?_) (some 13) rfl rfl (by kernel_rfl) (by kernel_rfl) (by kernel_rfl) (by kernel_rfl) (fun _ _ _ h => h) (Or.inl ⟨by rfl, ?_⟩) (by assumption) ?_
  rotate_left
  · intro w hSw; (try dsimp only at hSw); go_simp; (try with_reducible rfl)
  try simp only [Act.put, List.setIfInBounds_toArray, List.set_cons_zero, List.set_cons_succ]
  refine wpAnyL_take (i := 1) (v := ?_) (some 14) rfl rfl (by kernel_rfl) (by kernel_rfl) (by kernel_rfl) (by kernel_rfl) (fun _ _ _ h => h) (Or.inl ⟨by rfl, ?_⟩) (by assumption) ?_
  rotate_left
  · intro w hSw; (try dsimp only at hSw); go_simp; (try with_reducible rfl)
  try simp only [Act.put, List.setIfInBounds_toArray, List.set_cons_zero, List.set_cons_succ]
  refine wpAnyL_take (i := 2) (v := ?_) (some 15) rfl rfl (by kernel_rfl) (by kernel_rfl) (by kernel_rfl) (by kernel_rfl) (fun _ _ _ h => h) (Or.inl ⟨by rfl, ?_⟩) (by assumption) ?_
  rotate_left
  · intro w hSw; (try dsimp only at hSw); go_simp; (try with_reducible rfl)
  try simp only [Act.put, List.setIfInBounds_toArray, List.set_cons_zero, List.set_cons_succ]
  refine wpAnyL_take (i := 3) (v := ?_) (some 16) rfl rfl (by kernel_rfl) (by kernel_rfl) (by kernel_rfl) (by kernel_rfl) (fun _ _ _ h => h) (Or.inl ⟨by rfl, ?_⟩) (by assumption) ?_
  rotate_left
  · intro w hSw; (try dsimp only at hSw); go_simp; (try with_reducible rfl)
  try simp only [Act.put, List.setIfInBounds_toArray, List.set_cons_zero, List.set_cons_succ]
  refine wpAnyL_take (i := 4) (v := ?_) (some 17) rfl rfl (by kernel_rfl) (by kernel_rfl) (by kernel_rfl) (by kernel_rfl) (fun _ _ _ h => h) (Or.inl ⟨by rfl, ?_⟩) (by assumption) ?_
  rotate_left
  · intro w hSw; (try dsimp only at hSw); go_simp; (try with_reducible rfl)
  try simp only [Act.put, List.setIfInBounds_toArray, List.set_cons_zero, List.set_cons_succ]
  refine wpAnyL_take (i := 5) (v := ?_) (some 18) rfl rfl (by kernel_rfl) (by kernel_rfl) (by kernel_rfl) (by kernel_rfl) (fun _ _ _ h => h) (Or.inl ⟨by rfl, ?_⟩) (by assumption) ?_
  rotate_left
  · intro w hSw; (try dsimp only at hSw); go_simp; (try with_reducible rfl)
  try simp only [Act.put, List.setIfInBounds_toArray, List.set_cons_zero, List.set_cons_succ]
  refine wpAnyL_take (i := 6) (v := ?_) (some 19) rfl rfl (by kernel_rfl) (by kernel_rfl) (by kernel_rfl) (by kernel_rfl) (fun _ _ _ h => h) (Or.inl ⟨by rfl, ?_⟩) (by assumption) ?_
  rotate_left
  · intro w hSw; (try dsimp only at hSw); go_simp; (try with_reducible rfl)
  try simp only [Act.put, List.setIfInBounds_toArray, List.set_cons_zero, List.set_cons_succ]
  refine wpAnyL_take (i := 7) (v := ?_) (some 20) rfl rfl (by kernel_rfl) (by kernel_rfl) (by kernel_rfl) (by kernel_rfl) (fun _ _ _ h => h) (Or.inl ⟨by rfl, ?_⟩) (by assumption) ?_
  rotate_left
  · intro w hSw; (try dsimp only at hSw); go_simp; (try with_reducible rfl)
  try simp only [Act.put, List.setIfInBounds_toArray, List.set_cons_zero, List.set_cons_succ]
  refine wpAnyL_take (i := 8) (v := ?_) (some 21) rfl rfl (by kernel_rfl) (by kernel_rfl) (by kernel_rfl) (by kernel_rfl) (fun _ _ _ h => h) (Or.inl ⟨by rfl, ?_⟩) (by assumption) ?_
  rotate_left
  · intro w hSw; (try dsimp only at hSw); go_simp; (try with_reducible rfl)
  try simp only [Act.put, List.setIfInBounds_toArray, List.set_cons_zero, List.set_cons_succ]
  refine wpAnyL_take (i := 9) (v := ?_) (some 22) rfl rfl (by kernel_rfl) (by kernel_rfl) (by kernel_rfl) (by kernel_rfl) (fun _ _ _ h => h) (Or.inl ⟨by rfl, ?_⟩) (by assumption) ?_
  rotate_left
  · intro w hSw; (try dsimp only at hSw); go_simp; (try with_reducible rfl)
  try simp only [Act.put, List.setIfInBounds_toArray, List.set_cons_zero, List.set_cons_succ]
  refine wpAnyL_take (i := 10) (v := ?_) (some 23) rfl rfl (by kernel_rfl) (by kernel_rfl) (by kernel_rfl) (by kernel_rfl) (fun _ _ _ h => h) (Or.inl ⟨by rfl, ?_⟩) (by assumption) ?_
  rotate_left
  · intro w hSw; (try dsimp only at hSw); go_simp; (try with_reducible rfl)
  try simp only [Act.put, List.setIfInBounds_toArray, List.set_cons_zero, List.set_cons_succ]
  refine wpAnyL_take (i := 11) (v := ?_) (some 24) rfl rfl (by kernel_rfl) (by kernel_rfl) (by kernel_rfl) (by kernel_rfl) (fun _ _ _ h => h) (Or.inl ⟨by rfl, ?_⟩) (by assumption) ?_
  rotate_left
  · intro w hSw; (try dsimp only at hSw); go_simp; (try with_reducible rfl)
  try simp only [Act.put, List.setIfInBounds_toArray, List.set_cons_zero, List.set_cons_succ]
  refine wpAnyL_take (i := 12) (v := ?_) (some 25) rfl rfl (by kernel_rfl) (by kernel_rfl) (by kernel_rfl) (by kernel_rfl) (fun _ _ _ h => h) (Or.inl ⟨by rfl, ?_⟩) (by assumption) ?_
  rotate_left
  · intro w hSw; (try dsimp only at hSw); go_simp; (try with_reducible rfl)
  try simp only [Act.put, List.setIfInBounds_toArray, List.set_cons_zero, List.set_cons_succ]
  refine wpAnyL_one (i := 13) (by kernel_rfl) rfl (fun K hK => ?_)
  go_simp
  refine hK.out _ _ ?_ (fun hHeld => ?_)
  · first | exact HS.out | assumption | exact HKA.out _
  clear hK K
  try simp only [Act.put, List.setIfInBounds_toArray, List.set_cons_zero, List.set_cons_succ]
  refine wpAnyL_end (by kernel_rfl) rfl (fun K hK => ?_)
  go_simp
  refine hK.out _ _ ?_
  clear hK K
  try simp only [Act.put, List.setIfInBounds_toArray, List.set_cons_zero, List.set_cons_succ]
  refine wpAnyL_done (by kernel_rfl) ?_ _
  obtain ⟨q7, q8, q9, q10⟩ := HQ.out
  obtain ⟨r0, r1, r2, r3⟩ := RC.out
  obtain ⟨f0, f1, f2, f3⟩ := RF.out
  have hz2 := lt_of_cell r0
  clear t1 t2 t3 t4 t5 t6
  go_wp2_with fail
  exact bodyPost_ret (v := .agg #[.int .i64 (R * g.wide), .int .i64 (Q * g.high), .int .i64 (g.wide), .int .i64 (g.high)]) (by simp [results, Tryz.results59, go_sem, r0, r1, r2, r3, hz2]) rfl ⟨by rw [HX.out, HY.out, HW.out, HH.out, M1.out, M2.out], rect_kept K1.out (by omega)⟩

set_option maxRecDepth 100000 in
set_option maxHeartbeats 1600000 in
theorem rect_ab (g : GrD) (n : Int) (w : World) (hg : GrBnd g) (hn0 : 0 ≤ n) (hn1 : n < 65536) (m1 : g.wide ≤ g.across - rectX g n) (m2 : ¬ g.high ≤ g.down - rectY g n) :
    Calls Tryz.prog 59 #[.agg #[.bool g.re.neg, .string g.re.n, .int .i64 g.re.e, .bool g.im.neg, .string g.im.n, .int .i64 g.im.e, .int .i64 g.exp, .int .i64 g.across, .int .i64 g.down, .int .i64 g.wide, .int .i64 g.high], .int .i64 n] w fun e w' => e = .returned (.agg #[.int .i64 (rectX g n), .int .i64 (rectY g n), .int .i64 (rectW g n), .int .i64 (rectH g n)]) ∧ Kept w w' := by
  have CC := hide (fun (W : World) => counted_any g W hg)
  obtain ⟨ga0, ga1⟩ := hg.gA
  obtain ⟨a0, a1, d0, d1, w0, w1', h0, h1⟩ := hg
  have r1 := Int.emod_nonneg n (show gridA g ≠ 0 by omega)
  have r2 := Int.emod_lt_of_pos n (show 0 < gridA g by omega)
  have r3 : 0 ≤ n / gridA g := Int.ediv_nonneg hn0 (by omega)
  have r4 : n / gridA g ≤ n := Int.ediv_le_self _ hn0
  obtain ⟨R, hR⟩ : ∃ R, R = n % gridA g := ⟨_, rfl⟩
  obtain ⟨Q, hQ⟩ : ∃ R, R = n / gridA g := ⟨_, rfl⟩
  unfold rectX at m1
  unfold rectY at m2
  rw [← hR] at m1
  rw [← hQ] at m2
  have M1 : Hid (min g.wide (g.across - R * g.wide) = g.wide) := by show _ = _; omega
  have M2 : Hid (min g.high (g.down - Q * g.high) = g.down - Q * g.high) := by show _ = _; omega
  have x0 : 0 ≤ R * g.wide := Int.mul_nonneg (by omega) (by omega)
  have x1 : R * g.wide ≤ 65536 * 65536 := Int.mul_le_mul (by omega) w1' (by omega) (by omega)
  have y0 : 0 ≤ Q * g.high := Int.mul_nonneg (by omega) (by omega)
  have y1 : Q * g.high ≤ 65536 * 65536 := Int.mul_le_mul (by omega) h1 (by omega) (by omega)
  have HX : Hid (rectX g n = R * g.wide) := by show _ = _; rw [rectX, hR]
  have HY : Hid (rectY g n = Q * g.high) := by show _ = _; rw [rectY, hQ]
  have HW : Hid (rectW g n = min g.wide (g.across - R * g.wide)) := by show _ = _; rw [rectW, rectX, hR]
  have HH : Hid (rectH g n = min g.high (g.down - Q * g.high)) := by show _ = _; rw [rectH, rectY, hQ]
  have t1 : Int.tmod n (gridA g) = R := by rw [hR]; exact Int.tmod_eq_emod_of_nonneg hn0
  have t2 : Int.tdiv n (gridA g) = Q := by rw [hQ]; exact Int.tdiv_eq_ediv_of_nonneg hn0
  have t3 : ¬ gridA g = 0 := by omega
  have t4 : IntKind.i64.wrap (R * g.wide) = R * g.wide := IntWalk.i64_in _ (by omega)
  have t5 : IntKind.i64.wrap (Q * g.high) = Q * g.high := IntWalk.i64_in _ (by omega)
  have t6 : IntKind.i64.wrap Q = Q := IntWalk.i64_in _ (by omega)
  have BA : Hid (∀ W, Kept ((w.alloc (.cells #[.bool g.re.neg, .string g.re.n, .int .i64 g.re.e, .bool g.im.neg, .string g.im.n, .int .i64 g.im.e, .int .i64 g.exp, .int .i64 g.across, .int .i64 g.down, .int .i64 g.wide, .int .i64 g.high] 31)).alloc (.cells #[.int .i64 0, .int .i64 0, .int .i64 0, .int .i64 0] 38)) W → W.cell? ⟨w.heap.size, 7, none⟩ = some (.int .i64 g.across) ∧ W.cell? ⟨w.heap.size, 8, none⟩ = some (.int .i64 g.down) ∧ W.cell? ⟨w.heap.size, 9, none⟩ = some (.int .i64 g.wide) ∧ W.cell? ⟨w.heap.size, 10, none⟩ = some (.int .i64 g.high)) := fun W hW => ⟨(hW.cells w.heap.size 7 (by simp; omega)).trans (by simp), (hW.cells w.heap.size 8 (by simp; omega)).trans (by simp), (hW.cells w.heap.size 9 (by simp; omega)).trans (by simp), (hW.cells w.heap.size 10 (by simp; omega)).trans (by simp)⟩
  obtain ⟨A, hA⟩ : ∃ A, A = gridA g := ⟨_, rfl⟩
  obtain ⟨D, hD⟩ : ∃ A, A = gridD g := ⟨_, rfl⟩
  rw [← hA] at t1 t2 t3 CC ga0 ga1
  rw [← hD] at CC
  clear hR hQ r1 r2 r3 r4 hA hD
  go_enter Tryz.func59, Tryz.ntmps59
  go_wp2_with fail
  refine (CC.out _).mono ?_
  rintro e w1 ⟨rfl, hk1⟩
  obtain ⟨q7, q8, q9, q10⟩ := BA.out w1 hk1
  have hz1 := lt_of_cell q7
  have RB := hide (fun (o : Nat) (v : Value) (h : ((w.alloc (.cells #[.bool g.re.neg, .string g.re.n, .int .i64 g.re.e, .bool g.im.neg, .string g.im.n, .int .i64 g.im.e, .int .i64 g.exp, .int .i64 g.across, .int .i64 g.down, .int .i64 g.wide, .int .i64 g.high] 31)).alloc (.cells #[.int .i64 0, .int .i64 0, .int .i64 0, .int .i64 0] 38)).cell? ⟨w.heap.size + 1, o, none⟩ = some v) => (hk1.cells (w.heap.size + 1) o (by simp)).trans h)
  have K1 := hide ((((Below.refl _ w).alloc (Nat.le_refl _) (.cells #[.bool g.re.neg, .string g.re.n, .int .i64 g.re.e, .bool g.im.neg, .string g.im.n, .int .i64 g.im.e, .int .i64 g.exp, .int .i64 g.across, .int .i64 g.down, .int .i64 g.wide, .int .i64 g.high] 31)).alloc (by simp) (.cells #[.int .i64 0, .int .i64 0, .int .i64 0, .int .i64 0] 38)).trans (hk1.mono (by simp; omega)))
  have HS := hide (And.intro q9 q10)
  have HQ := hide (And.intro q7 (And.intro q8 (And.intro q9 q10)))
  have HKA : Hid (∀ o, (w1.alloc o).cell? ⟨w.heap.size, 9, none⟩ = some (.int .i64 g.wide) ∧ (w1.alloc o).cell? ⟨w.heap.size, 10, none⟩ = some (.int .i64 g.high)) := fun o => ⟨(World.cell?_alloc_lt w1 _ ⟨w.heap.size, 9, none⟩ hz1).trans q9, (World.cell?_alloc_lt w1 _ ⟨w.heap.size, 10, none⟩ hz1).trans q10⟩
  have RC : Hid (w1.cell? ⟨w.heap.size + 1, 0, none⟩ = some (.int .i64 0) ∧ w1.cell? ⟨w.heap.size + 1, 1, none⟩ = some (.int .i64 0) ∧ w1.cell? ⟨w.heap.size + 1, 2, none⟩ = some (.int .i64 0) ∧ w1.cell? ⟨w.heap.size + 1, 3, none⟩ = some (.int .i64 0)) := ⟨(hk1.cells (w.heap.size + 1) 0 (by simp)).trans (by simp), (hk1.cells (w.heap.size + 1) 1 (by simp)).trans (by simp), (hk1.cells (w.heap.size + 1) 2 (by simp)).trans (by simp), (hk1.cells (w.heap.size + 1) 3 (by simp)).trans (by simp)⟩
  have hff : ∀ o, w1.frozen? ⟨w.heap.size + 1, o, none⟩ = false := fun o => (hk1.thaw (w.heap.size + 1) o (by simp)).trans (by have h9 := fresh_frozen (w.alloc (.cells #[.bool g.re.neg, .string g.re.n, .int .i64 g.re.e, .bool g.im.neg, .string g.im.n, .int .i64 g.im.e, .int .i64 g.exp, .int .i64 g.across, .int .i64 g.down, .int .i64 g.wide, .int .i64 g.high] 31)) #[.int .i64 0, .int .i64 0, .int .i64 0, .int .i64 0] 38 o; rw [World.size_alloc] at h9; exact h9)
  have RF : Hid (w1.frozen? ⟨w.heap.size + 1, 0, none⟩ = false ∧ w1.frozen? ⟨w.heap.size + 1, 1, none⟩ = false ∧ w1.frozen? ⟨w.heap.size + 1, 2, none⟩ = false ∧ w1.frozen? ⟨w.heap.size + 1, 3, none⟩ = false) := ⟨hff 0, hff 1, hff 2, hff 3⟩
  clear hk1 hff
  go_wp2_with fail
  clear q7 q8 q9 q10
  refine wp_region_L (fun X => X.cell? ⟨w.heap.size, 9, none⟩ = some (.int .i64 g.wide) ∧ X.cell? ⟨w.heap.size, 10, none⟩ = some (.int .i64 g.high)) 14 (by kernel_rfl) ?_ (fun hHeld => ?_)
  · first | exact HS.out | assumption | exact HKA.out _
  refine wpAnyL_take (i := 0) (v := ?_) (some 13) rfl rfl (by kernel_rfl) (by kernel_rfl) (by kernel_rfl) (by kernel_rfl) (fun _ _ _ h => h) (Or.inl ⟨by rfl, ?_⟩) (by assumption) ?_
  rotate_left
  · intro w hSw; (try dsimp only at hSw); go_simp; (try with_reducible rfl)
  try simp only [Act.put, List.setIfInBounds_toArray, List.set_cons_zero, List.set_cons_succ]
  refine wpAnyL_take (i := 1) (v := ?_) (some 14) rfl rfl (by kernel_rfl) (by kernel_rfl) (by kernel_rfl) (by kernel_rfl) (fun _ _ _ h => h) (Or.inl ⟨by rfl, ?_⟩) (by assumption) ?_
  rotate_left
  · intro w hSw; (try dsimp only at hSw); go_simp; (try with_reducible rfl)
  try simp only [Act.put, List.setIfInBounds_toArray, List.set_cons_zero, List.set_cons_succ]
  refine wpAnyL_take (i := 2) (v := ?_) (some 15) rfl rfl (by kernel_rfl) (by kernel_rfl) (by kernel_rfl) (by kernel_rfl) (fun _ _ _ h => h) (Or.inl ⟨by rfl, ?_⟩) (by assumption) ?_
  rotate_left
  · intro w hSw; (try dsimp only at hSw); go_simp; (try with_reducible rfl)
  try simp only [Act.put, List.setIfInBounds_toArray, List.set_cons_zero, List.set_cons_succ]
  refine wpAnyL_take (i := 3) (v := ?_) (some 16) rfl rfl (by kernel_rfl) (by kernel_rfl) (by kernel_rfl) (by kernel_rfl) (fun _ _ _ h => h) (Or.inl ⟨by rfl, ?_⟩) (by assumption) ?_
  rotate_left
  · intro w hSw; (try dsimp only at hSw); go_simp; (try with_reducible rfl)
  try simp only [Act.put, List.setIfInBounds_toArray, List.set_cons_zero, List.set_cons_succ]
  refine wpAnyL_take (i := 4) (v := ?_) (some 17) rfl rfl (by kernel_rfl) (by kernel_rfl) (by kernel_rfl) (by kernel_rfl) (fun _ _ _ h => h) (Or.inl ⟨by rfl, ?_⟩) (by assumption) ?_
  rotate_left
  · intro w hSw; (try dsimp only at hSw); go_simp; (try with_reducible rfl)
  try simp only [Act.put, List.setIfInBounds_toArray, List.set_cons_zero, List.set_cons_succ]
  refine wpAnyL_take (i := 5) (v := ?_) (some 18) rfl rfl (by kernel_rfl) (by kernel_rfl) (by kernel_rfl) (by kernel_rfl) (fun _ _ _ h => h) (Or.inl ⟨by rfl, ?_⟩) (by assumption) ?_
  rotate_left
  · intro w hSw; (try dsimp only at hSw); go_simp; (try with_reducible rfl)
  try simp only [Act.put, List.setIfInBounds_toArray, List.set_cons_zero, List.set_cons_succ]
  refine wpAnyL_take (i := 6) (v := ?_) (some 19) rfl rfl (by kernel_rfl) (by kernel_rfl) (by kernel_rfl) (by kernel_rfl) (fun _ _ _ h => h) (Or.inl ⟨by rfl, ?_⟩) (by assumption) ?_
  rotate_left
  · intro w hSw; (try dsimp only at hSw); go_simp; (try with_reducible rfl)
  try simp only [Act.put, List.setIfInBounds_toArray, List.set_cons_zero, List.set_cons_succ]
  refine wpAnyL_take (i := 7) (v := ?_) (some 20) rfl rfl (by kernel_rfl) (by kernel_rfl) (by kernel_rfl) (by kernel_rfl) (fun _ _ _ h => h) (Or.inl ⟨by rfl, ?_⟩) (by assumption) ?_
  rotate_left
  · intro w hSw; (try dsimp only at hSw); go_simp; (try with_reducible rfl)
  try simp only [Act.put, List.setIfInBounds_toArray, List.set_cons_zero, List.set_cons_succ]
  refine wpAnyL_take (i := 8) (v := ?_) (some 21) rfl rfl (by kernel_rfl) (by kernel_rfl) (by kernel_rfl) (by kernel_rfl) (fun _ _ _ h => h) (Or.inl ⟨by rfl, ?_⟩) (by assumption) ?_
  rotate_left
  · intro w hSw; (try dsimp only at hSw); go_simp; (try with_reducible rfl)
  try simp only [Act.put, List.setIfInBounds_toArray, List.set_cons_zero, List.set_cons_succ]
  refine wpAnyL_take (i := 9) (v := ?_) (some 22) rfl rfl (by kernel_rfl) (by kernel_rfl) (by kernel_rfl) (by kernel_rfl) (fun _ _ _ h => h) (Or.inl ⟨by rfl, ?_⟩) (by assumption) ?_
  rotate_left
  · intro w hSw; (try dsimp only at hSw); go_simp; (try with_reducible rfl)
  try simp only [Act.put, List.setIfInBounds_toArray, List.set_cons_zero, List.set_cons_succ]
  refine wpAnyL_take (i := 10) (v := ?_) (some 23) rfl rfl (by kernel_rfl) (by kernel_rfl) (by kernel_rfl) (by kernel_rfl) (fun _ _ _ h => h) (Or.inl ⟨by rfl, ?_⟩) (by assumption) ?_
  rotate_left
  · intro w hSw; (try dsimp only at hSw); go_simp; (try with_reducible rfl)
  try simp only [Act.put, List.setIfInBounds_toArray, List.set_cons_zero, List.set_cons_succ]
  refine wpAnyL_take (i := 11) (v := ?_) (some 24) rfl rfl (by kernel_rfl) (by kernel_rfl) (by kernel_rfl) (by kernel_rfl) (fun _ _ _ h => h) (Or.inl ⟨by rfl, ?_⟩) (by assumption) ?_
  rotate_left
  · intro w hSw; (try dsimp only at hSw); go_simp; (try with_reducible rfl)
  try simp only [Act.put, List.setIfInBounds_toArray, List.set_cons_zero, List.set_cons_succ]
  refine wpAnyL_take (i := 12) (v := ?_) (some 25) rfl rfl (by kernel_rfl) (by kernel_rfl) (by kernel_rfl) (by kernel_rfl) (fun _ _ _ h => h) (Or.inl ⟨by rfl, ?_⟩) (by assumption) ?_
  rotate_left
  · intro w hSw; (try dsimp only at hSw); go_simp; (try with_reducible rfl)
  try simp only [Act.put, List.setIfInBounds_toArray, List.set_cons_zero, List.set_cons_succ]
  refine wpAnyL_one (i := 13) (by kernel_rfl) rfl (fun K hK => ?_)
  go_simp
  refine hK.out _ _ ?_ (fun hHeld => ?_)
  · first | exact HS.out | assumption | exact HKA.out _
  clear hK K
  try simp only [Act.put, List.setIfInBounds_toArray, List.set_cons_zero, List.set_cons_succ]
  refine wpAnyL_end (by kernel_rfl) rfl (fun K hK => ?_)
  go_simp
  refine hK.out _ _ ?_
  clear hK K
  try simp only [Act.put, List.setIfInBounds_toArray, List.set_cons_zero, List.set_cons_succ]
  refine wpAnyL_done (by kernel_rfl) ?_ _
  obtain ⟨q7, q8, q9, q10⟩ := HQ.out
  obtain ⟨r0, r1, r2, r3⟩ := RC.out
  obtain ⟨f0, f1, f2, f3⟩ := RF.out
  have hz2 := lt_of_cell r0
  clear t1 t2 t3 t4 t5 t6
  go_wp2_with fail
  exact bodyPost_ret (v := .agg #[.int .i64 (R * g.wide), .int .i64 (Q * g.high), .int .i64 (g.wide), .int .i64 (g.down - Q * g.high)]) (by simp [results, Tryz.results59, go_sem, r0, r1, r2, r3, hz2]) rfl ⟨by rw [HX.out, HY.out, HW.out, HH.out, M1.out, M2.out], rect_kept K1.out (by omega)⟩

set_option maxRecDepth 100000 in
set_option maxHeartbeats 1600000 in
theorem rect_ba (g : GrD) (n : Int) (w : World) (hg : GrBnd g) (hn0 : 0 ≤ n) (hn1 : n < 65536) (m1 : ¬ g.wide ≤ g.across - rectX g n) (m2 : g.high ≤ g.down - rectY g n) :
    Calls Tryz.prog 59 #[.agg #[.bool g.re.neg, .string g.re.n, .int .i64 g.re.e, .bool g.im.neg, .string g.im.n, .int .i64 g.im.e, .int .i64 g.exp, .int .i64 g.across, .int .i64 g.down, .int .i64 g.wide, .int .i64 g.high], .int .i64 n] w fun e w' => e = .returned (.agg #[.int .i64 (rectX g n), .int .i64 (rectY g n), .int .i64 (rectW g n), .int .i64 (rectH g n)]) ∧ Kept w w' := by
  have CC := hide (fun (W : World) => counted_any g W hg)
  obtain ⟨ga0, ga1⟩ := hg.gA
  obtain ⟨a0, a1, d0, d1, w0, w1', h0, h1⟩ := hg
  have r1 := Int.emod_nonneg n (show gridA g ≠ 0 by omega)
  have r2 := Int.emod_lt_of_pos n (show 0 < gridA g by omega)
  have r3 : 0 ≤ n / gridA g := Int.ediv_nonneg hn0 (by omega)
  have r4 : n / gridA g ≤ n := Int.ediv_le_self _ hn0
  obtain ⟨R, hR⟩ : ∃ R, R = n % gridA g := ⟨_, rfl⟩
  obtain ⟨Q, hQ⟩ : ∃ R, R = n / gridA g := ⟨_, rfl⟩
  unfold rectX at m1
  unfold rectY at m2
  rw [← hR] at m1
  rw [← hQ] at m2
  have M1 : Hid (min g.wide (g.across - R * g.wide) = g.across - R * g.wide) := by show _ = _; omega
  have M2 : Hid (min g.high (g.down - Q * g.high) = g.high) := by show _ = _; omega
  have x0 : 0 ≤ R * g.wide := Int.mul_nonneg (by omega) (by omega)
  have x1 : R * g.wide ≤ 65536 * 65536 := Int.mul_le_mul (by omega) w1' (by omega) (by omega)
  have y0 : 0 ≤ Q * g.high := Int.mul_nonneg (by omega) (by omega)
  have y1 : Q * g.high ≤ 65536 * 65536 := Int.mul_le_mul (by omega) h1 (by omega) (by omega)
  have HX : Hid (rectX g n = R * g.wide) := by show _ = _; rw [rectX, hR]
  have HY : Hid (rectY g n = Q * g.high) := by show _ = _; rw [rectY, hQ]
  have HW : Hid (rectW g n = min g.wide (g.across - R * g.wide)) := by show _ = _; rw [rectW, rectX, hR]
  have HH : Hid (rectH g n = min g.high (g.down - Q * g.high)) := by show _ = _; rw [rectH, rectY, hQ]
  have t1 : Int.tmod n (gridA g) = R := by rw [hR]; exact Int.tmod_eq_emod_of_nonneg hn0
  have t2 : Int.tdiv n (gridA g) = Q := by rw [hQ]; exact Int.tdiv_eq_ediv_of_nonneg hn0
  have t3 : ¬ gridA g = 0 := by omega
  have t4 : IntKind.i64.wrap (R * g.wide) = R * g.wide := IntWalk.i64_in _ (by omega)
  have t5 : IntKind.i64.wrap (Q * g.high) = Q * g.high := IntWalk.i64_in _ (by omega)
  have t6 : IntKind.i64.wrap Q = Q := IntWalk.i64_in _ (by omega)
  have BA : Hid (∀ W, Kept ((w.alloc (.cells #[.bool g.re.neg, .string g.re.n, .int .i64 g.re.e, .bool g.im.neg, .string g.im.n, .int .i64 g.im.e, .int .i64 g.exp, .int .i64 g.across, .int .i64 g.down, .int .i64 g.wide, .int .i64 g.high] 31)).alloc (.cells #[.int .i64 0, .int .i64 0, .int .i64 0, .int .i64 0] 38)) W → W.cell? ⟨w.heap.size, 7, none⟩ = some (.int .i64 g.across) ∧ W.cell? ⟨w.heap.size, 8, none⟩ = some (.int .i64 g.down) ∧ W.cell? ⟨w.heap.size, 9, none⟩ = some (.int .i64 g.wide) ∧ W.cell? ⟨w.heap.size, 10, none⟩ = some (.int .i64 g.high)) := fun W hW => ⟨(hW.cells w.heap.size 7 (by simp; omega)).trans (by simp), (hW.cells w.heap.size 8 (by simp; omega)).trans (by simp), (hW.cells w.heap.size 9 (by simp; omega)).trans (by simp), (hW.cells w.heap.size 10 (by simp; omega)).trans (by simp)⟩
  obtain ⟨A, hA⟩ : ∃ A, A = gridA g := ⟨_, rfl⟩
  obtain ⟨D, hD⟩ : ∃ A, A = gridD g := ⟨_, rfl⟩
  rw [← hA] at t1 t2 t3 CC ga0 ga1
  rw [← hD] at CC
  clear hR hQ r1 r2 r3 r4 hA hD
  go_enter Tryz.func59, Tryz.ntmps59
  go_wp2_with fail
  refine (CC.out _).mono ?_
  rintro e w1 ⟨rfl, hk1⟩
  obtain ⟨q7, q8, q9, q10⟩ := BA.out w1 hk1
  have hz1 := lt_of_cell q7
  have RB := hide (fun (o : Nat) (v : Value) (h : ((w.alloc (.cells #[.bool g.re.neg, .string g.re.n, .int .i64 g.re.e, .bool g.im.neg, .string g.im.n, .int .i64 g.im.e, .int .i64 g.exp, .int .i64 g.across, .int .i64 g.down, .int .i64 g.wide, .int .i64 g.high] 31)).alloc (.cells #[.int .i64 0, .int .i64 0, .int .i64 0, .int .i64 0] 38)).cell? ⟨w.heap.size + 1, o, none⟩ = some v) => (hk1.cells (w.heap.size + 1) o (by simp)).trans h)
  have K1 := hide ((((Below.refl _ w).alloc (Nat.le_refl _) (.cells #[.bool g.re.neg, .string g.re.n, .int .i64 g.re.e, .bool g.im.neg, .string g.im.n, .int .i64 g.im.e, .int .i64 g.exp, .int .i64 g.across, .int .i64 g.down, .int .i64 g.wide, .int .i64 g.high] 31)).alloc (by simp) (.cells #[.int .i64 0, .int .i64 0, .int .i64 0, .int .i64 0] 38)).trans (hk1.mono (by simp; omega)))
  have HS := hide (And.intro q9 q10)
  have HQ := hide (And.intro q7 (And.intro q8 (And.intro q9 q10)))
  have HKA : Hid (∀ o, (w1.alloc o).cell? ⟨w.heap.size, 9, none⟩ = some (.int .i64 g.wide) ∧ (w1.alloc o).cell? ⟨w.heap.size, 10, none⟩ = some (.int .i64 g.high)) := fun o => ⟨(World.cell?_alloc_lt w1 _ ⟨w.heap.size, 9, none⟩ hz1).trans q9, (World.cell?_alloc_lt w1 _ ⟨w.heap.size, 10, none⟩ hz1).trans q10⟩
  have RC : Hid (w1.cell? ⟨w.heap.size + 1, 0, none⟩ = some (.int .i64 0) ∧ w1.cell? ⟨w.heap.size + 1, 1, none⟩ = some (.int .i64 0) ∧ w1.cell? ⟨w.heap.size + 1, 2, none⟩ = some (.int .i64 0) ∧ w1.cell? ⟨w.heap.size + 1, 3, none⟩ = some (.int .i64 0)) := ⟨(hk1.cells (w.heap.size + 1) 0 (by simp)).trans (by simp), (hk1.cells (w.heap.size + 1) 1 (by simp)).trans (by simp), (hk1.cells (w.heap.size + 1) 2 (by simp)).trans (by simp), (hk1.cells (w.heap.size + 1) 3 (by simp)).trans (by simp)⟩
  have hff : ∀ o, w1.frozen? ⟨w.heap.size + 1, o, none⟩ = false := fun o => (hk1.thaw (w.heap.size + 1) o (by simp)).trans (by have h9 := fresh_frozen (w.alloc (.cells #[.bool g.re.neg, .string g.re.n, .int .i64 g.re.e, .bool g.im.neg, .string g.im.n, .int .i64 g.im.e, .int .i64 g.exp, .int .i64 g.across, .int .i64 g.down, .int .i64 g.wide, .int .i64 g.high] 31)) #[.int .i64 0, .int .i64 0, .int .i64 0, .int .i64 0] 38 o; rw [World.size_alloc] at h9; exact h9)
  have RF : Hid (w1.frozen? ⟨w.heap.size + 1, 0, none⟩ = false ∧ w1.frozen? ⟨w.heap.size + 1, 1, none⟩ = false ∧ w1.frozen? ⟨w.heap.size + 1, 2, none⟩ = false ∧ w1.frozen? ⟨w.heap.size + 1, 3, none⟩ = false) := ⟨hff 0, hff 1, hff 2, hff 3⟩
  clear hk1 hff
  go_wp2_with fail
  clear q7 q8 q9 q10
  refine wp_region_L (fun X => X.cell? ⟨w.heap.size, 9, none⟩ = some (.int .i64 g.wide) ∧ X.cell? ⟨w.heap.size, 10, none⟩ = some (.int .i64 g.high)) 14 (by kernel_rfl) ?_ (fun hHeld => ?_)
  · first | exact HS.out | assumption | exact HKA.out _
  refine wpAnyL_take (i := 0) (v := ?_) (some 13) rfl rfl (by kernel_rfl) (by kernel_rfl) (by kernel_rfl) (by kernel_rfl) (fun _ _ _ h => h) (Or.inl ⟨by rfl, ?_⟩) (by assumption) ?_
  rotate_left
  · intro w hSw; (try dsimp only at hSw); go_simp; (try with_reducible rfl)
  try simp only [Act.put, List.setIfInBounds_toArray, List.set_cons_zero, List.set_cons_succ]
  refine wpAnyL_take (i := 1) (v := ?_) (some 14) rfl rfl (by kernel_rfl) (by kernel_rfl) (by kernel_rfl) (by kernel_rfl) (fun _ _ _ h => h) (Or.inl ⟨by rfl, ?_⟩) (by assumption) ?_
  rotate_left
  · intro w hSw; (try dsimp only at hSw); go_simp; (try with_reducible rfl)
  try simp only [Act.put, List.setIfInBounds_toArray, List.set_cons_zero, List.set_cons_succ]
  refine wpAnyL_take (i := 2) (v := ?_) (some 15) rfl rfl (by kernel_rfl) (by kernel_rfl) (by kernel_rfl) (by kernel_rfl) (fun _ _ _ h => h) (Or.inl ⟨by rfl, ?_⟩) (by assumption) ?_
  rotate_left
  · intro w hSw; (try dsimp only at hSw); go_simp; (try with_reducible rfl)
  try simp only [Act.put, List.setIfInBounds_toArray, List.set_cons_zero, List.set_cons_succ]
  refine wpAnyL_take (i := 3) (v := ?_) (some 16) rfl rfl (by kernel_rfl) (by kernel_rfl) (by kernel_rfl) (by kernel_rfl) (fun _ _ _ h => h) (Or.inl ⟨by rfl, ?_⟩) (by assumption) ?_
  rotate_left
  · intro w hSw; (try dsimp only at hSw); go_simp; (try with_reducible rfl)
  try simp only [Act.put, List.setIfInBounds_toArray, List.set_cons_zero, List.set_cons_succ]
  refine wpAnyL_take (i := 4) (v := ?_) (some 17) rfl rfl (by kernel_rfl) (by kernel_rfl) (by kernel_rfl) (by kernel_rfl) (fun _ _ _ h => h) (Or.inl ⟨by rfl, ?_⟩) (by assumption) ?_
  rotate_left
  · intro w hSw; (try dsimp only at hSw); go_simp; (try with_reducible rfl)
  try simp only [Act.put, List.setIfInBounds_toArray, List.set_cons_zero, List.set_cons_succ]
  refine wpAnyL_take (i := 5) (v := ?_) (some 18) rfl rfl (by kernel_rfl) (by kernel_rfl) (by kernel_rfl) (by kernel_rfl) (fun _ _ _ h => h) (Or.inl ⟨by rfl, ?_⟩) (by assumption) ?_
  rotate_left
  · intro w hSw; (try dsimp only at hSw); go_simp; (try with_reducible rfl)
  try simp only [Act.put, List.setIfInBounds_toArray, List.set_cons_zero, List.set_cons_succ]
  refine wpAnyL_take (i := 6) (v := ?_) (some 19) rfl rfl (by kernel_rfl) (by kernel_rfl) (by kernel_rfl) (by kernel_rfl) (fun _ _ _ h => h) (Or.inl ⟨by rfl, ?_⟩) (by assumption) ?_
  rotate_left
  · intro w hSw; (try dsimp only at hSw); go_simp; (try with_reducible rfl)
  try simp only [Act.put, List.setIfInBounds_toArray, List.set_cons_zero, List.set_cons_succ]
  refine wpAnyL_take (i := 7) (v := ?_) (some 20) rfl rfl (by kernel_rfl) (by kernel_rfl) (by kernel_rfl) (by kernel_rfl) (fun _ _ _ h => h) (Or.inl ⟨by rfl, ?_⟩) (by assumption) ?_
  rotate_left
  · intro w hSw; (try dsimp only at hSw); go_simp; (try with_reducible rfl)
  try simp only [Act.put, List.setIfInBounds_toArray, List.set_cons_zero, List.set_cons_succ]
  refine wpAnyL_take (i := 8) (v := ?_) (some 21) rfl rfl (by kernel_rfl) (by kernel_rfl) (by kernel_rfl) (by kernel_rfl) (fun _ _ _ h => h) (Or.inl ⟨by rfl, ?_⟩) (by assumption) ?_
  rotate_left
  · intro w hSw; (try dsimp only at hSw); go_simp; (try with_reducible rfl)
  try simp only [Act.put, List.setIfInBounds_toArray, List.set_cons_zero, List.set_cons_succ]
  refine wpAnyL_take (i := 9) (v := ?_) (some 22) rfl rfl (by kernel_rfl) (by kernel_rfl) (by kernel_rfl) (by kernel_rfl) (fun _ _ _ h => h) (Or.inl ⟨by rfl, ?_⟩) (by assumption) ?_
  rotate_left
  · intro w hSw; (try dsimp only at hSw); go_simp; (try with_reducible rfl)
  try simp only [Act.put, List.setIfInBounds_toArray, List.set_cons_zero, List.set_cons_succ]
  refine wpAnyL_take (i := 10) (v := ?_) (some 23) rfl rfl (by kernel_rfl) (by kernel_rfl) (by kernel_rfl) (by kernel_rfl) (fun _ _ _ h => h) (Or.inl ⟨by rfl, ?_⟩) (by assumption) ?_
  rotate_left
  · intro w hSw; (try dsimp only at hSw); go_simp; (try with_reducible rfl)
  try simp only [Act.put, List.setIfInBounds_toArray, List.set_cons_zero, List.set_cons_succ]
  refine wpAnyL_take (i := 11) (v := ?_) (some 24) rfl rfl (by kernel_rfl) (by kernel_rfl) (by kernel_rfl) (by kernel_rfl) (fun _ _ _ h => h) (Or.inl ⟨by rfl, ?_⟩) (by assumption) ?_
  rotate_left
  · intro w hSw; (try dsimp only at hSw); go_simp; (try with_reducible rfl)
  try simp only [Act.put, List.setIfInBounds_toArray, List.set_cons_zero, List.set_cons_succ]
  refine wpAnyL_take (i := 12) (v := ?_) (some 25) rfl rfl (by kernel_rfl) (by kernel_rfl) (by kernel_rfl) (by kernel_rfl) (fun _ _ _ h => h) (Or.inl ⟨by rfl, ?_⟩) (by assumption) ?_
  rotate_left
  · intro w hSw; (try dsimp only at hSw); go_simp; (try with_reducible rfl)
  try simp only [Act.put, List.setIfInBounds_toArray, List.set_cons_zero, List.set_cons_succ]
  refine wpAnyL_one (i := 13) (by kernel_rfl) rfl (fun K hK => ?_)
  go_simp
  refine hK.out _ _ ?_ (fun hHeld => ?_)
  · first | exact HS.out | assumption | exact HKA.out _
  clear hK K
  try simp only [Act.put, List.setIfInBounds_toArray, List.set_cons_zero, List.set_cons_succ]
  refine wpAnyL_end (by kernel_rfl) rfl (fun K hK => ?_)
  go_simp
  refine hK.out _ _ ?_
  clear hK K
  try simp only [Act.put, List.setIfInBounds_toArray, List.set_cons_zero, List.set_cons_succ]
  refine wpAnyL_done (by kernel_rfl) ?_ _
  obtain ⟨q7, q8, q9, q10⟩ := HQ.out
  obtain ⟨r0, r1, r2, r3⟩ := RC.out
  obtain ⟨f0, f1, f2, f3⟩ := RF.out
  have hz2 := lt_of_cell r0
  clear t1 t2 t3 t4 t5 t6
  go_wp2_with fail
  exact bodyPost_ret (v := .agg #[.int .i64 (R * g.wide), .int .i64 (Q * g.high), .int .i64 (g.across - R * g.wide), .int .i64 (g.high)]) (by simp [results, Tryz.results59, go_sem, r0, r1, r2, r3, hz2]) rfl ⟨by rw [HX.out, HY.out, HW.out, HH.out, M1.out, M2.out], rect_kept K1.out (by omega)⟩

set_option maxRecDepth 100000 in
set_option maxHeartbeats 1600000 in
theorem rect_bb (g : GrD) (n : Int) (w : World) (hg : GrBnd g) (hn0 : 0 ≤ n) (hn1 : n < 65536) (m1 : ¬ g.wide ≤ g.across - rectX g n) (m2 : ¬ g.high ≤ g.down - rectY g n) :
    Calls Tryz.prog 59 #[.agg #[.bool g.re.neg, .string g.re.n, .int .i64 g.re.e, .bool g.im.neg, .string g.im.n, .int .i64 g.im.e, .int .i64 g.exp, .int .i64 g.across, .int .i64 g.down, .int .i64 g.wide, .int .i64 g.high], .int .i64 n] w fun e w' => e = .returned (.agg #[.int .i64 (rectX g n), .int .i64 (rectY g n), .int .i64 (rectW g n), .int .i64 (rectH g n)]) ∧ Kept w w' := by
  have CC := hide (fun (W : World) => counted_any g W hg)
  obtain ⟨ga0, ga1⟩ := hg.gA
  obtain ⟨a0, a1, d0, d1, w0, w1', h0, h1⟩ := hg
  have r1 := Int.emod_nonneg n (show gridA g ≠ 0 by omega)
  have r2 := Int.emod_lt_of_pos n (show 0 < gridA g by omega)
  have r3 : 0 ≤ n / gridA g := Int.ediv_nonneg hn0 (by omega)
  have r4 : n / gridA g ≤ n := Int.ediv_le_self _ hn0
  obtain ⟨R, hR⟩ : ∃ R, R = n % gridA g := ⟨_, rfl⟩
  obtain ⟨Q, hQ⟩ : ∃ R, R = n / gridA g := ⟨_, rfl⟩
  unfold rectX at m1
  unfold rectY at m2
  rw [← hR] at m1
  rw [← hQ] at m2
  have M1 : Hid (min g.wide (g.across - R * g.wide) = g.across - R * g.wide) := by show _ = _; omega
  have M2 : Hid (min g.high (g.down - Q * g.high) = g.down - Q * g.high) := by show _ = _; omega
  have x0 : 0 ≤ R * g.wide := Int.mul_nonneg (by omega) (by omega)
  have x1 : R * g.wide ≤ 65536 * 65536 := Int.mul_le_mul (by omega) w1' (by omega) (by omega)
  have y0 : 0 ≤ Q * g.high := Int.mul_nonneg (by omega) (by omega)
  have y1 : Q * g.high ≤ 65536 * 65536 := Int.mul_le_mul (by omega) h1 (by omega) (by omega)
  have HX : Hid (rectX g n = R * g.wide) := by show _ = _; rw [rectX, hR]
  have HY : Hid (rectY g n = Q * g.high) := by show _ = _; rw [rectY, hQ]
  have HW : Hid (rectW g n = min g.wide (g.across - R * g.wide)) := by show _ = _; rw [rectW, rectX, hR]
  have HH : Hid (rectH g n = min g.high (g.down - Q * g.high)) := by show _ = _; rw [rectH, rectY, hQ]
  have t1 : Int.tmod n (gridA g) = R := by rw [hR]; exact Int.tmod_eq_emod_of_nonneg hn0
  have t2 : Int.tdiv n (gridA g) = Q := by rw [hQ]; exact Int.tdiv_eq_ediv_of_nonneg hn0
  have t3 : ¬ gridA g = 0 := by omega
  have t4 : IntKind.i64.wrap (R * g.wide) = R * g.wide := IntWalk.i64_in _ (by omega)
  have t5 : IntKind.i64.wrap (Q * g.high) = Q * g.high := IntWalk.i64_in _ (by omega)
  have t6 : IntKind.i64.wrap Q = Q := IntWalk.i64_in _ (by omega)
  have BA : Hid (∀ W, Kept ((w.alloc (.cells #[.bool g.re.neg, .string g.re.n, .int .i64 g.re.e, .bool g.im.neg, .string g.im.n, .int .i64 g.im.e, .int .i64 g.exp, .int .i64 g.across, .int .i64 g.down, .int .i64 g.wide, .int .i64 g.high] 31)).alloc (.cells #[.int .i64 0, .int .i64 0, .int .i64 0, .int .i64 0] 38)) W → W.cell? ⟨w.heap.size, 7, none⟩ = some (.int .i64 g.across) ∧ W.cell? ⟨w.heap.size, 8, none⟩ = some (.int .i64 g.down) ∧ W.cell? ⟨w.heap.size, 9, none⟩ = some (.int .i64 g.wide) ∧ W.cell? ⟨w.heap.size, 10, none⟩ = some (.int .i64 g.high)) := fun W hW => ⟨(hW.cells w.heap.size 7 (by simp; omega)).trans (by simp), (hW.cells w.heap.size 8 (by simp; omega)).trans (by simp), (hW.cells w.heap.size 9 (by simp; omega)).trans (by simp), (hW.cells w.heap.size 10 (by simp; omega)).trans (by simp)⟩
  obtain ⟨A, hA⟩ : ∃ A, A = gridA g := ⟨_, rfl⟩
  obtain ⟨D, hD⟩ : ∃ A, A = gridD g := ⟨_, rfl⟩
  rw [← hA] at t1 t2 t3 CC ga0 ga1
  rw [← hD] at CC
  clear hR hQ r1 r2 r3 r4 hA hD
  go_enter Tryz.func59, Tryz.ntmps59
  go_wp2_with fail
  refine (CC.out _).mono ?_
  rintro e w1 ⟨rfl, hk1⟩
  obtain ⟨q7, q8, q9, q10⟩ := BA.out w1 hk1
  have hz1 := lt_of_cell q7
  have RB := hide (fun (o : Nat) (v : Value) (h : ((w.alloc (.cells #[.bool g.re.neg, .string g.re.n, .int .i64 g.re.e, .bool g.im.neg, .string g.im.n, .int .i64 g.im.e, .int .i64 g.exp, .int .i64 g.across, .int .i64 g.down, .int .i64 g.wide, .int .i64 g.high] 31)).alloc (.cells #[.int .i64 0, .int .i64 0, .int .i64 0, .int .i64 0] 38)).cell? ⟨w.heap.size + 1, o, none⟩ = some v) => (hk1.cells (w.heap.size + 1) o (by simp)).trans h)
  have K1 := hide ((((Below.refl _ w).alloc (Nat.le_refl _) (.cells #[.bool g.re.neg, .string g.re.n, .int .i64 g.re.e, .bool g.im.neg, .string g.im.n, .int .i64 g.im.e, .int .i64 g.exp, .int .i64 g.across, .int .i64 g.down, .int .i64 g.wide, .int .i64 g.high] 31)).alloc (by simp) (.cells #[.int .i64 0, .int .i64 0, .int .i64 0, .int .i64 0] 38)).trans (hk1.mono (by simp; omega)))
  have HS := hide (And.intro q9 q10)
  have HQ := hide (And.intro q7 (And.intro q8 (And.intro q9 q10)))
  have HKA : Hid (∀ o, (w1.alloc o).cell? ⟨w.heap.size, 9, none⟩ = some (.int .i64 g.wide) ∧ (w1.alloc o).cell? ⟨w.heap.size, 10, none⟩ = some (.int .i64 g.high)) := fun o => ⟨(World.cell?_alloc_lt w1 _ ⟨w.heap.size, 9, none⟩ hz1).trans q9, (World.cell?_alloc_lt w1 _ ⟨w.heap.size, 10, none⟩ hz1).trans q10⟩
  have RC : Hid (w1.cell? ⟨w.heap.size + 1, 0, none⟩ = some (.int .i64 0) ∧ w1.cell? ⟨w.heap.size + 1, 1, none⟩ = some (.int .i64 0) ∧ w1.cell? ⟨w.heap.size + 1, 2, none⟩ = some (.int .i64 0) ∧ w1.cell? ⟨w.heap.size + 1, 3, none⟩ = some (.int .i64 0)) := ⟨(hk1.cells (w.heap.size + 1) 0 (by simp)).trans (by simp), (hk1.cells (w.heap.size + 1) 1 (by simp)).trans (by simp), (hk1.cells (w.heap.size + 1) 2 (by simp)).trans (by simp), (hk1.cells (w.heap.size + 1) 3 (by simp)).trans (by simp)⟩
  have hff : ∀ o, w1.frozen? ⟨w.heap.size + 1, o, none⟩ = false := fun o => (hk1.thaw (w.heap.size + 1) o (by simp)).trans (by have h9 := fresh_frozen (w.alloc (.cells #[.bool g.re.neg, .string g.re.n, .int .i64 g.re.e, .bool g.im.neg, .string g.im.n, .int .i64 g.im.e, .int .i64 g.exp, .int .i64 g.across, .int .i64 g.down, .int .i64 g.wide, .int .i64 g.high] 31)) #[.int .i64 0, .int .i64 0, .int .i64 0, .int .i64 0] 38 o; rw [World.size_alloc] at h9; exact h9)
  have RF : Hid (w1.frozen? ⟨w.heap.size + 1, 0, none⟩ = false ∧ w1.frozen? ⟨w.heap.size + 1, 1, none⟩ = false ∧ w1.frozen? ⟨w.heap.size + 1, 2, none⟩ = false ∧ w1.frozen? ⟨w.heap.size + 1, 3, none⟩ = false) := ⟨hff 0, hff 1, hff 2, hff 3⟩
  clear hk1 hff
  go_wp2_with fail
  clear q7 q8 q9 q10
  refine wp_region_L (fun X => X.cell? ⟨w.heap.size, 9, none⟩ = some (.int .i64 g.wide) ∧ X.cell? ⟨w.heap.size, 10, none⟩ = some (.int .i64 g.high)) 14 (by kernel_rfl) ?_ (fun hHeld => ?_)
  · first | exact HS.out | assumption | exact HKA.out _
  refine wpAnyL_take (i := 0) (v := ?_) (some 13) rfl rfl (by kernel_rfl) (by kernel_rfl) (by kernel_rfl) (by kernel_rfl) (fun _ _ _ h => h) (Or.inl ⟨by rfl, ?_⟩) (by assumption) ?_
  rotate_left
  · intro w hSw; (try dsimp only at hSw); go_simp; (try with_reducible rfl)
  try simp only [Act.put, List.setIfInBounds_toArray, List.set_cons_zero, List.set_cons_succ]
  refine wpAnyL_take (i := 1) (v := ?_) (some 14) rfl rfl (by kernel_rfl) (by kernel_rfl) (by kernel_rfl) (by kernel_rfl) (fun _ _ _ h => h) (Or.inl ⟨by rfl, ?_⟩) (by assumption) ?_
  rotate_left
  · intro w hSw; (try dsimp only at hSw); go_simp; (try with_reducible rfl)
  try simp only [Act.put, List.setIfInBounds_toArray, List.set_cons_zero, List.set_cons_succ]
  refine wpAnyL_take (i := 2) (v := ?_) (some 15) rfl rfl (by kernel_rfl) (by kernel_rfl) (by kernel_rfl) (by kernel_rfl) (fun _ _ _ h => h) (Or.inl ⟨by rfl, ?_⟩) (by assumption) ?_
  rotate_left
  · intro w hSw; (try dsimp only at hSw); go_simp; (try with_reducible rfl)
  try simp only [Act.put, List.setIfInBounds_toArray, List.set_cons_zero, List.set_cons_succ]
  refine wpAnyL_take (i := 3) (v := ?_) (some 16) rfl rfl (by kernel_rfl) (by kernel_rfl) (by kernel_rfl) (by kernel_rfl) (fun _ _ _ h => h) (Or.inl ⟨by rfl, ?_⟩) (by assumption) ?_
  rotate_left
  · intro w hSw; (try dsimp only at hSw); go_simp; (try with_reducible rfl)
  try simp only [Act.put, List.setIfInBounds_toArray, List.set_cons_zero, List.set_cons_succ]
  refine wpAnyL_take (i := 4) (v := ?_) (some 17) rfl rfl (by kernel_rfl) (by kernel_rfl) (by kernel_rfl) (by kernel_rfl) (fun _ _ _ h => h) (Or.inl ⟨by rfl, ?_⟩) (by assumption) ?_
  rotate_left
  · intro w hSw; (try dsimp only at hSw); go_simp; (try with_reducible rfl)
  try simp only [Act.put, List.setIfInBounds_toArray, List.set_cons_zero, List.set_cons_succ]
  refine wpAnyL_take (i := 5) (v := ?_) (some 18) rfl rfl (by kernel_rfl) (by kernel_rfl) (by kernel_rfl) (by kernel_rfl) (fun _ _ _ h => h) (Or.inl ⟨by rfl, ?_⟩) (by assumption) ?_
  rotate_left
  · intro w hSw; (try dsimp only at hSw); go_simp; (try with_reducible rfl)
  try simp only [Act.put, List.setIfInBounds_toArray, List.set_cons_zero, List.set_cons_succ]
  refine wpAnyL_take (i := 6) (v := ?_) (some 19) rfl rfl (by kernel_rfl) (by kernel_rfl) (by kernel_rfl) (by kernel_rfl) (fun _ _ _ h => h) (Or.inl ⟨by rfl, ?_⟩) (by assumption) ?_
  rotate_left
  · intro w hSw; (try dsimp only at hSw); go_simp; (try with_reducible rfl)
  try simp only [Act.put, List.setIfInBounds_toArray, List.set_cons_zero, List.set_cons_succ]
  refine wpAnyL_take (i := 7) (v := ?_) (some 20) rfl rfl (by kernel_rfl) (by kernel_rfl) (by kernel_rfl) (by kernel_rfl) (fun _ _ _ h => h) (Or.inl ⟨by rfl, ?_⟩) (by assumption) ?_
  rotate_left
  · intro w hSw; (try dsimp only at hSw); go_simp; (try with_reducible rfl)
  try simp only [Act.put, List.setIfInBounds_toArray, List.set_cons_zero, List.set_cons_succ]
  refine wpAnyL_take (i := 8) (v := ?_) (some 21) rfl rfl (by kernel_rfl) (by kernel_rfl) (by kernel_rfl) (by kernel_rfl) (fun _ _ _ h => h) (Or.inl ⟨by rfl, ?_⟩) (by assumption) ?_
  rotate_left
  · intro w hSw; (try dsimp only at hSw); go_simp; (try with_reducible rfl)
  try simp only [Act.put, List.setIfInBounds_toArray, List.set_cons_zero, List.set_cons_succ]
  refine wpAnyL_take (i := 9) (v := ?_) (some 22) rfl rfl (by kernel_rfl) (by kernel_rfl) (by kernel_rfl) (by kernel_rfl) (fun _ _ _ h => h) (Or.inl ⟨by rfl, ?_⟩) (by assumption) ?_
  rotate_left
  · intro w hSw; (try dsimp only at hSw); go_simp; (try with_reducible rfl)
  try simp only [Act.put, List.setIfInBounds_toArray, List.set_cons_zero, List.set_cons_succ]
  refine wpAnyL_take (i := 10) (v := ?_) (some 23) rfl rfl (by kernel_rfl) (by kernel_rfl) (by kernel_rfl) (by kernel_rfl) (fun _ _ _ h => h) (Or.inl ⟨by rfl, ?_⟩) (by assumption) ?_
  rotate_left
  · intro w hSw; (try dsimp only at hSw); go_simp; (try with_reducible rfl)
  try simp only [Act.put, List.setIfInBounds_toArray, List.set_cons_zero, List.set_cons_succ]
  refine wpAnyL_take (i := 11) (v := ?_) (some 24) rfl rfl (by kernel_rfl) (by kernel_rfl) (by kernel_rfl) (by kernel_rfl) (fun _ _ _ h => h) (Or.inl ⟨by rfl, ?_⟩) (by assumption) ?_
  rotate_left
  · intro w hSw; (try dsimp only at hSw); go_simp; (try with_reducible rfl)
  try simp only [Act.put, List.setIfInBounds_toArray, List.set_cons_zero, List.set_cons_succ]
  refine wpAnyL_take (i := 12) (v := ?_) (some 25) rfl rfl (by kernel_rfl) (by kernel_rfl) (by kernel_rfl) (by kernel_rfl) (fun _ _ _ h => h) (Or.inl ⟨by rfl, ?_⟩) (by assumption) ?_
  rotate_left
  · intro w hSw; (try dsimp only at hSw); go_simp; (try with_reducible rfl)
  try simp only [Act.put, List.setIfInBounds_toArray, List.set_cons_zero, List.set_cons_succ]
  refine wpAnyL_one (i := 13) (by kernel_rfl) rfl (fun K hK => ?_)
  go_simp
  refine hK.out _ _ ?_ (fun hHeld => ?_)
  · first | exact HS.out | assumption | exact HKA.out _
  clear hK K
  try simp only [Act.put, List.setIfInBounds_toArray, List.set_cons_zero, List.set_cons_succ]
  refine wpAnyL_end (by kernel_rfl) rfl (fun K hK => ?_)
  go_simp
  refine hK.out _ _ ?_
  clear hK K
  try simp only [Act.put, List.setIfInBounds_toArray, List.set_cons_zero, List.set_cons_succ]
  refine wpAnyL_done (by kernel_rfl) ?_ _
  obtain ⟨q7, q8, q9, q10⟩ := HQ.out
  obtain ⟨r0, r1, r2, r3⟩ := RC.out
  obtain ⟨f0, f1, f2, f3⟩ := RF.out
  have hz2 := lt_of_cell r0
  clear t1 t2 t3 t4 t5 t6
  go_wp2_with fail
  exact bodyPost_ret (v := .agg #[.int .i64 (R * g.wide), .int .i64 (Q * g.high), .int .i64 (g.across - R * g.wide), .int .i64 (g.down - Q * g.high)]) (by simp [results, Tryz.results59, go_sem, r0, r1, r2, r3, hz2]) rfl ⟨by rw [HX.out, HY.out, HW.out, HH.out, M1.out, M2.out], rect_kept K1.out (by omega)⟩

theorem rect_any (g : GrD) (n : Int) (w : World) (hg : GrBnd g) (hn0 : 0 ≤ n) (hn1 : n < 65536) :
    Calls Tryz.prog 59 #[.agg #[.bool g.re.neg, .string g.re.n, .int .i64 g.re.e, .bool g.im.neg, .string g.im.n, .int .i64 g.im.e, .int .i64 g.exp, .int .i64 g.across, .int .i64 g.down, .int .i64 g.wide, .int .i64 g.high], .int .i64 n] w fun e w' => e = .returned (.agg #[.int .i64 (rectX g n), .int .i64 (rectY g n), .int .i64 (rectW g n), .int .i64 (rectH g n)]) ∧ Kept w w' := by
  by_cases m1 : g.wide ≤ g.across - rectX g n
  · by_cases m2 : g.high ≤ g.down - rectY g n
    · exact rect_aa g n w hg hn0 hn1 m1 m2
    · exact rect_ab g n w hg hn0 hn1 m1 m2
  · by_cases m2 : g.high ≤ g.down - rectY g n
    · exact rect_ba g n w hg hn0 hn1 m1 m2
    · exact rect_bb g n w hg hn0 hn1 m1 m2

end Go.Proofs.YtneakieigiafpaaGreatDoor

/- tile.Rect, walked. -/
namespace Go.Proofs.YtneakieigiafpaaGreatDoor
open Go.RowKit

def RectPost (g : GrD) (n : Int) (w : World) (e : Ending) (w' : World) : Prop :=
  (if gridI g = 0 then
    if 0 ≤ n ∧ n < gridA g * gridD g then e = .returned (.tuple #[.agg #[.int .i64 (rectX g n), .int .i64 (rectY g n), .int .i64 (rectW g n), .int .i64 (rectH g n)], .int .i64 0])
    else e = .returned (.tuple #[.agg #[.int .i64 0, .int .i64 0, .int .i64 0, .int .i64 0], .int .i64 2])
  else e = .returned (.tuple #[.agg #[.int .i64 0, .int .i64 0, .int .i64 0, .int .i64 0], .int .i64 (gridI g)])) ∧ Kept w w'
/-- A block of a rectangle that is still nothing. -/
structure Rec0 (w W : World) (b : Nat) : Prop where
  r0 : W.cell? ⟨b, 0, none⟩ = some (.int .i64 0)
  r1 : W.cell? ⟨b, 1, none⟩ = some (.int .i64 0)
  r2 : W.cell? ⟨b, 2, none⟩ = some (.int .i64 0)
  r3 : W.cell? ⟨b, 3, none⟩ = some (.int .i64 0)
  f0 : W.frozen? ⟨b, 0, none⟩ = false
  f1 : W.frozen? ⟨b, 1, none⟩ = false
  f2 : W.frozen? ⟨b, 2, none⟩ = false
  f3 : W.frozen? ⟨b, 3, none⟩ = false
  le : w.heap.size ≤ b
  kept : Kept w W
theorem Rec0.lt {w W : World} {b : Nat} (h : Rec0 w W b) : b < W.heap.size := lt_of_cell h.r0
theorem Rec0.keep {w W W' : World} {b : Nat} (h : Rec0 w W b) (hk : Kept W W') : Rec0 w W' b :=
  ⟨(hk.cells _ _ h.lt).trans h.r0, (hk.cells _ _ h.lt).trans h.r1, (hk.cells _ _ h.lt).trans h.r2, (hk.cells _ _ h.lt).trans h.r3, (hk.thaw _ _ h.lt).trans h.f0, (hk.thaw _ _ h.lt).trans h.f1, (hk.thaw _ _ h.lt).trans h.f2, (hk.thaw _ _ h.lt).trans h.f3, h.le, h.kept.trans (hk.mono h.kept.size)⟩
theorem Rec0.new (w W : World) (t : TypeId) (b : Nat) (hb : b = W.heap.size) (h : Kept w W) : Rec0 w (W.alloc (.cells #[.int .i64 0, .int .i64 0, .int .i64 0, .int .i64 0] t)) b := by
  subst hb
  exact ⟨by simp, by simp, by simp, by simp, fresh_frozen _ _ _ _, fresh_frozen _ _ _ _, fresh_frozen _ _ _ _, fresh_frozen _ _ _ _, h.size, h.alloc h.size _⟩
theorem Rec0.stored {w W : World} {b : Nat} (h : Rec0 w W b) (x0 x1 x2 x3 : Value) : Kept w ((((W.setCell ⟨b, 0, none⟩ x0).setCell ⟨b, 1, none⟩ x1).setCell ⟨b, 2, none⟩ x2).setCell ⟨b, 3, none⟩ x3) :=
  (((h.kept.setCell h.le x0).setCell h.le x1).setCell h.le x2).setCell h.le x3

set_option maxRecDepth 100000 in
set_option maxHeartbeats 1600000 in
theorem trect_any (g : GrD) (n : Int) (w : World) (hg : g.ok) (hn0 : -9223372036854775808 ≤ n) (hn1 : n ≤ 9223372036854775807) : Calls Tryz.prog 20 #[.agg #[.bool g.re.neg, .string g.re.n, .int .i64 g.re.e, .bool g.im.neg, .string g.im.n, .int .i64 g.im.e, .int .i64 g.exp, .int .i64 g.across, .int .i64 g.down, .int .i64 g.wide, .int .i64 g.high], .int .i64 n] w (RectPost g n w) := by
  have CV := hide (fun (W : World) => tcount_any g W hg)
  have R0 := hide (Rec0.new w (w.alloc (.cells #[.bool g.re.neg, .string g.re.n, .int .i64 g.re.e, .bool g.im.neg, .string g.im.n, .int .i64 g.im.e, .int .i64 g.exp, .int .i64 g.across, .int .i64 g.down, .int .i64 g.wide, .int .i64 g.high] 31)) 38 (w.heap.size + 1) (by simp) ((Below.refl _ _).alloc (Nat.le_refl _) _))
  by_cases hI : gridI g = 0
  · obtain ⟨hB, hm⟩ := gridI_ok hI
    obtain ⟨ga0, ga1⟩ := hB.gA
    obtain ⟨gd0, gd1⟩ := hB.gD
    have p1 : 0 ≤ gridA g * gridD g := Int.mul_nonneg (by omega) (by omega)
    have HI := hide hI
    rw [show cntA g = gridA g by simp [cntA, hI], show cntD g = gridD g by simp [cntD, hI], hI] at CV
    have CRR : Hid (∀ W, 0 ≤ n → n < 65536 → Calls Tryz.prog 59 #[.agg #[.bool g.re.neg, .string g.re.n, .int .i64 g.re.e, .bool g.im.neg, .string g.im.n, .int .i64 g.im.e, .int .i64 g.exp, .int .i64 g.across, .int .i64 g.down, .int .i64 g.wide, .int .i64 g.high], .int .i64 n] W fun e w' => e = .returned (.agg #[.int .i64 (rectX g n), .int .i64 (rectY g n), .int .i64 (rectW g n), .int .i64 (rectH g n)]) ∧ Kept W w') := fun W h0 h1 => rect_any g n W hB h0 h1
    have BA : Hid (∀ W, Kept ((w.alloc (.cells #[.bool g.re.neg, .string g.re.n, .int .i64 g.re.e, .bool g.im.neg, .string g.im.n, .int .i64 g.im.e, .int .i64 g.exp, .int .i64 g.across, .int .i64 g.down, .int .i64 g.wide, .int .i64 g.high] 31)).alloc (.cells #[.int .i64 0, .int .i64 0, .int .i64 0, .int .i64 0] 38)) W → W.cell? ⟨w.heap.size, 0, none⟩ = some (.bool g.re.neg) ∧ W.cell? ⟨w.heap.size, 1, none⟩ = some (.string g.re.n) ∧ W.cell? ⟨w.heap.size, 2, none⟩ = some (.int .i64 g.re.e) ∧ W.cell? ⟨w.heap.size, 3, none⟩ = some (.bool g.im.neg) ∧ W.cell? ⟨w.heap.size, 4, none⟩ = some (.string g.im.n) ∧ W.cell? ⟨w.heap.size, 5, none⟩ = some (.int .i64 g.im.e) ∧ W.cell? ⟨w.heap.size, 6, none⟩ = some (.int .i64 g.exp) ∧ W.cell? ⟨w.heap.size, 7, none⟩ = some (.int .i64 g.across) ∧ W.cell? ⟨w.heap.size, 8, none⟩ = some (.int .i64 g.down) ∧ W.cell? ⟨w.heap.size, 9, none⟩ = some (.int .i64 g.wide) ∧ W.cell? ⟨w.heap.size, 10, none⟩ = some (.int .i64 g.high)) := fun W hW => ⟨(hW.cells w.heap.size 0 (by simp; omega)).trans (by simp), (hW.cells w.heap.size 1 (by simp; omega)).trans (by simp), (hW.cells w.heap.size 2 (by simp; omega)).trans (by simp), (hW.cells w.heap.size 3 (by simp; omega)).trans (by simp), (hW.cells w.heap.size 4 (by simp; omega)).trans (by simp), (hW.cells w.heap.size 5 (by simp; omega)).trans (by simp), (hW.cells w.heap.size 6 (by simp; omega)).trans (by simp), (hW.cells w.heap.size 7 (by simp; omega)).trans (by simp), (hW.cells w.heap.size 8 (by simp; omega)).trans (by simp), (hW.cells w.heap.size 9 (by simp; omega)).trans (by simp), (hW.cells w.heap.size 10 (by simp; omega)).trans (by simp)⟩
    have HP : Hid (∀ e w', (if 0 ≤ n ∧ n < gridA g * gridD g then e = .returned (.tuple #[.agg #[.int .i64 (rectX g n), .int .i64 (rectY g n), .int .i64 (rectW g n), .int .i64 (rectH g n)], .int .i64 0]) else e = .returned (.tuple #[.agg #[.int .i64 0, .int .i64 0, .int .i64 0, .int .i64 0], .int .i64 2])) → Kept w w' → RectPost g n w e w') := fun e w' h1 h2 => ⟨by rw [if_pos hI]; exact h1, h2⟩
    generalize rectX g n = X at *
    generalize rectY g n = Y at *
    generalize rectW g n = U at *
    generalize rectH g n = V at *
    generalize gridA g = A at *
    generalize gridD g = D at *
    clear hI hB hg
    by_cases hn : 0 ≤ n ∧ n < A * D
    · obtain ⟨n0, n1⟩ := hn
      have s1 : ¬ n < 0 := by omega
      have s2 : ¬ A * D ≤ n := by omega
      have C9 := hide (fun (W : World) => CRR.out W n0 (by omega))
      go_enter Tryz.func20, Tryz.ntmps20
      go_wp2_with fail
      refine (CV.out _).mono ?_
      rintro e w1 ⟨rfl, hk1⟩
      obtain ⟨q0, q1, q2, q3, q4, q5, q6, q7, q8, q9, q10⟩ := BA.out w1 hk1
      have hz1 := lt_of_cell q0
      have R1 := hide (R0.out.keep hk1)
      clear hk1
      go_wp2_with fail
      refine (C9.out _).mono ?_
      rintro e w2 ⟨rfl, hk2⟩
      have R2 := hide (R1.out.keep hk2)
      obtain ⟨r0, r1, r2, r3, f0, f1, f2, f3, -, -⟩ := R2.out
      have hz2 := R2.out.lt
      clear hk2 q0 q1 q2 q3 q4 q5 q6 q7 q8 q9 q10
      go_wp2_with fail
      exact bodyPost_ret (v := .tuple #[.agg #[.int .i64 X, .int .i64 Y, .int .i64 U, .int .i64 V], .int .i64 0]) (by simp [results, Tryz.results20, go_sem, r0, r1, r2, r3]) rfl (HP.out _ _ (by rw [if_pos ⟨n0, n1⟩]) (R2.out.stored _ _ _ _))
    · have HN := hide hn
      rcases (show n < 0 ∨ (¬ n < 0 ∧ A * D ≤ n) by omega) with s1 | ⟨s1, s2⟩
      all_goals
        clear hn
        go_enter Tryz.func20, Tryz.ntmps20
        go_wp2_with (go_at_call 19; refine (CV.out _).mono ?_; rintro e w1 ⟨rfl, hk1⟩; have R2 := hide (R0.out.keep hk1); obtain ⟨r0, r1, r2, r3, f0, f1, f2, f3, -, -⟩ := R2.out; have hz2 := R2.out.lt; clear hk1)
        exact bodyPost_ret (v := .tuple #[.agg #[.int .i64 0, .int .i64 0, .int .i64 0, .int .i64 0], .int .i64 2]) (by simp [results, Tryz.results20, go_sem, r0, r1, r2, r3]) rfl (HP.out _ _ (by rw [if_neg HN.out]) (R2.out.stored _ _ _ _))
  · have hne : (gridI g != 0) = true := by simp [hI]
    have HP : Hid (∀ w', Kept w w' → RectPost g n w (.returned (.tuple #[.agg #[.int .i64 0, .int .i64 0, .int .i64 0, .int .i64 0], .int .i64 (gridI g)])) w') := fun w' h => ⟨by rw [if_neg hI], h⟩
    obtain ⟨E, hE⟩ : ∃ E, E = gridI g := ⟨_, rfl⟩
    rw [← hE] at CV hne HP
    clear hI hE hg
    go_enter Tryz.func20, Tryz.ntmps20
    go_wp2_with (go_at_call 19; refine (CV.out _).mono ?_; rintro e w1 ⟨rfl, hk1⟩; have R2 := hide (R0.out.keep hk1); obtain ⟨r0, r1, r2, r3, f0, f1, f2, f3, -, -⟩ := R2.out; have hz2 := R2.out.lt; clear hk1)
    exact bodyPost_ret (v := .tuple #[.agg #[.int .i64 0, .int .i64 0, .int .i64 0, .int .i64 0], .int .i64 E]) (by simp [results, Tryz.results20, go_sem, r0, r1, r2, r3]) rfl (HP.out _ (R2.out.stored _ _ _ _))
end Go.Proofs.YtneakieigiafpaaGreatDoor

/- tile.At, walked. -/
namespace Go.Proofs.YtneakieigiafpaaGreatDoor
open Go.RowKit

def atN (g : GrD) (x y : Int) : Int := y / g.high * gridA g + x / g.wide
def AtPost (g : GrD) (x y : Int) (w : World) (e : Ending) (w' : World) : Prop :=
  (if gridI g = 0 then
    if 0 ≤ x ∧ 0 ≤ y ∧ x < g.across ∧ y < g.down then e = .returned (.tuple #[.int .i64 (atN g x y), .int .i64 0])
    else e = .returned (.tuple #[.int .i64 0, .int .i64 241])
  else e = .returned (.tuple #[.int .i64 0, .int .i64 (gridI g)])) ∧ Kept w w'

set_option maxRecDepth 100000 in
set_option maxHeartbeats 1600000 in
theorem tat_in (g : GrD) (x y : Int) (w : World) (hg : g.ok) (hI : gridI g = 0) (x0 : 0 ≤ x) (y0 : 0 ≤ y) (x1 : x < g.across) (y1 : y < g.down) : Calls Tryz.prog 21 #[.agg #[.bool g.re.neg, .string g.re.n, .int .i64 g.re.e, .bool g.im.neg, .string g.im.n, .int .i64 g.im.e, .int .i64 g.exp, .int .i64 g.across, .int .i64 g.down, .int .i64 g.wide, .int .i64 g.high], .int .i64 x, .int .i64 y] w fun e w' => e = .returned (.tuple #[.int .i64 (atN g x y), .int .i64 0]) ∧ Kept w w' := by
  have CV := hide (fun (W : World) => tcount_any g W hg)
  obtain ⟨hB, hm⟩ := gridI_ok hI
  obtain ⟨ga0, ga1⟩ := hB.gA
  rw [show cntA g = gridA g by simp [cntA, hI], show cntD g = gridD g by simp [cntD, hI], hI] at CV
  obtain ⟨a0, a1, d0, d1, w0, w1, h0, h1⟩ := hB
  have BA : Hid (∀ W, Kept (w.alloc (.cells #[.bool g.re.neg, .string g.re.n, .int .i64 g.re.e, .bool g.im.neg, .string g.im.n, .int .i64 g.im.e, .int .i64 g.exp, .int .i64 g.across, .int .i64 g.down, .int .i64 g.wide, .int .i64 g.high] 31)) W → W.cell? ⟨w.heap.size, 0, none⟩ = some (.bool g.re.neg) ∧ W.cell? ⟨w.heap.size, 1, none⟩ = some (.string g.re.n) ∧ W.cell? ⟨w.heap.size, 2, none⟩ = some (.int .i64 g.re.e) ∧ W.cell? ⟨w.heap.size, 3, none⟩ = some (.bool g.im.neg) ∧ W.cell? ⟨w.heap.size, 4, none⟩ = some (.string g.im.n) ∧ W.cell? ⟨w.heap.size, 5, none⟩ = some (.int .i64 g.im.e) ∧ W.cell? ⟨w.heap.size, 6, none⟩ = some (.int .i64 g.exp) ∧ W.cell? ⟨w.heap.size, 7, none⟩ = some (.int .i64 g.across) ∧ W.cell? ⟨w.heap.size, 8, none⟩ = some (.int .i64 g.down) ∧ W.cell? ⟨w.heap.size, 9, none⟩ = some (.int .i64 g.wide) ∧ W.cell? ⟨w.heap.size, 10, none⟩ = some (.int .i64 g.high)) := fun W hW => ⟨(hW.cells w.heap.size 0 (by simp)).trans (by simp), (hW.cells w.heap.size 1 (by simp)).trans (by simp), (hW.cells w.heap.size 2 (by simp)).trans (by simp), (hW.cells w.heap.size 3 (by simp)).trans (by simp), (hW.cells w.heap.size 4 (by simp)).trans (by simp), (hW.cells w.heap.size 5 (by simp)).trans (by simp), (hW.cells w.heap.size 6 (by simp)).trans (by simp), (hW.cells w.heap.size 7 (by simp)).trans (by simp), (hW.cells w.heap.size 8 (by simp)).trans (by simp), (hW.cells w.heap.size 9 (by simp)).trans (by simp), (hW.cells w.heap.size 10 (by simp)).trans (by simp)⟩
  unfold atN
  have p1 : 0 ≤ y / g.high := Int.ediv_nonneg y0 (by omega)
  have p2 : y / g.high ≤ y := Int.ediv_le_self _ y0
  have p3 : 0 ≤ x / g.wide := Int.ediv_nonneg x0 (by omega)
  have p4 : x / g.wide ≤ x := Int.ediv_le_self _ x0
  have t1 : Int.tdiv y g.high = y / g.high := Int.tdiv_eq_ediv_of_nonneg y0
  have t2 : Int.tdiv x g.wide = x / g.wide := Int.tdiv_eq_ediv_of_nonneg x0
  generalize y / g.high = Q at *
  generalize x / g.wide = R at *
  generalize gridA g = A at *
  generalize gridD g = D at *
  have p5 : 0 ≤ Q * A := Int.mul_nonneg p1 (by omega)
  have p6 : Q * A ≤ 65536 * 65536 := Int.mul_le_mul (by omega) ga1 (by omega) (by omega)
  have e1 : IntKind.i64.wrap Q = Q := IntWalk.i64_in _ (by omega)
  have e2 : IntKind.i64.wrap (Q * A) = Q * A := IntWalk.i64_in _ (by omega)
  have e3 : IntKind.i64.wrap R = R := IntWalk.i64_in _ (by omega)
  have e4 : IntKind.i64.wrap (Q * A + R) = Q * A + R := IntWalk.i64_in _ (by omega)
  have u1 := show g.wide ≠ 0 by omega
  have u2 := show g.high ≠ 0 by omega
  have n1 : (g.wide == 0) = false := by simp; omega
  have n2 : (g.high == 0) = false := by simp; omega
  have s1 : ¬ x < 0 := by omega
  have s2 : ¬ y < 0 := by omega
  have s3 : ¬ g.across ≤ x := by omega
  have s4 : ¬ g.down ≤ y := by omega
  clear hI hm hg p5 p6
  go_enter Tryz.func21, Tryz.ntmps21
  go_wp2_with fail
  refine (CV.out _).mono ?_; rintro e w1 ⟨rfl, hk1⟩; obtain ⟨q0, q1, q2, q3, q4, q5, q6, q7, q8, q9, q10⟩ := BA.out w1 hk1; have hz1 := lt_of_cell q0; have K1 := hide (((Below.refl _ w).alloc (Nat.le_refl _) (.cells #[.bool g.re.neg, .string g.re.n, .int .i64 g.re.e, .bool g.im.neg, .string g.im.n, .int .i64 g.im.e, .int .i64 g.exp, .int .i64 g.across, .int .i64 g.down, .int .i64 g.wide, .int .i64 g.high] 31)).trans (hk1.mono (by simp))); clear hk1
  go_wp2_with fail
  go_quiet (fail)
  go_wp2_with fail
  exact bodyPost_ret (v := .tuple #[.int .i64 (Q * A + R), .int .i64 0]) (by simp [results, Tryz.results21, go_sem]) rfl ⟨rfl, drewN_below K1.out _⟩

set_option maxRecDepth 100000 in
set_option maxHeartbeats 1600000 in
theorem tat_any (g : GrD) (x y : Int) (w : World) (hg : g.ok) (x0 : -9223372036854775808 ≤ x) (x1 : x ≤ 9223372036854775807) (y0 : -9223372036854775808 ≤ y) (y1 : y ≤ 9223372036854775807) : Calls Tryz.prog 21 #[.agg #[.bool g.re.neg, .string g.re.n, .int .i64 g.re.e, .bool g.im.neg, .string g.im.n, .int .i64 g.im.e, .int .i64 g.exp, .int .i64 g.across, .int .i64 g.down, .int .i64 g.wide, .int .i64 g.high], .int .i64 x, .int .i64 y] w (AtPost g x y w) := by
  by_cases hI : gridI g = 0
  · by_cases hn : 0 ≤ x ∧ 0 ≤ y ∧ x < g.across ∧ y < g.down
    · refine (tat_in g x y w hg hI hn.1 hn.2.1 hn.2.2.1 hn.2.2.2).mono ?_
      rintro e w1 ⟨rfl, hk⟩
      exact ⟨by rw [if_pos hI, if_pos hn], hk⟩
    · have CV := hide (fun (W : World) => tcount_any g W hg)
      rw [show cntA g = gridA g by simp [cntA, hI], show cntD g = gridD g by simp [cntD, hI], hI] at CV
      have BA : Hid (∀ W, Kept (w.alloc (.cells #[.bool g.re.neg, .string g.re.n, .int .i64 g.re.e, .bool g.im.neg, .string g.im.n, .int .i64 g.im.e, .int .i64 g.exp, .int .i64 g.across, .int .i64 g.down, .int .i64 g.wide, .int .i64 g.high] 31)) W → W.cell? ⟨w.heap.size, 0, none⟩ = some (.bool g.re.neg) ∧ W.cell? ⟨w.heap.size, 1, none⟩ = some (.string g.re.n) ∧ W.cell? ⟨w.heap.size, 2, none⟩ = some (.int .i64 g.re.e) ∧ W.cell? ⟨w.heap.size, 3, none⟩ = some (.bool g.im.neg) ∧ W.cell? ⟨w.heap.size, 4, none⟩ = some (.string g.im.n) ∧ W.cell? ⟨w.heap.size, 5, none⟩ = some (.int .i64 g.im.e) ∧ W.cell? ⟨w.heap.size, 6, none⟩ = some (.int .i64 g.exp) ∧ W.cell? ⟨w.heap.size, 7, none⟩ = some (.int .i64 g.across) ∧ W.cell? ⟨w.heap.size, 8, none⟩ = some (.int .i64 g.down) ∧ W.cell? ⟨w.heap.size, 9, none⟩ = some (.int .i64 g.wide) ∧ W.cell? ⟨w.heap.size, 10, none⟩ = some (.int .i64 g.high)) := fun W hW => ⟨(hW.cells w.heap.size 0 (by simp)).trans (by simp), (hW.cells w.heap.size 1 (by simp)).trans (by simp), (hW.cells w.heap.size 2 (by simp)).trans (by simp), (hW.cells w.heap.size 3 (by simp)).trans (by simp), (hW.cells w.heap.size 4 (by simp)).trans (by simp), (hW.cells w.heap.size 5 (by simp)).trans (by simp), (hW.cells w.heap.size 6 (by simp)).trans (by simp), (hW.cells w.heap.size 7 (by simp)).trans (by simp), (hW.cells w.heap.size 8 (by simp)).trans (by simp), (hW.cells w.heap.size 9 (by simp)).trans (by simp), (hW.cells w.heap.size 10 (by simp)).trans (by simp)⟩
      have HP : Hid (∀ w', Kept w w' → AtPost g x y w (.returned (.tuple #[.int .i64 0, .int .i64 241])) w') := fun w' h => ⟨by rw [if_pos hI, if_neg hn], h⟩
      generalize gridA g = A at *
      generalize gridD g = D at *
      rcases (show x < 0 ∨ (¬ x < 0 ∧ y < 0) ∨ (¬ x < 0 ∧ ¬ y < 0 ∧ g.across ≤ x) ∨ (¬ x < 0 ∧ ¬ y < 0 ∧ ¬ g.across ≤ x ∧ g.down ≤ y) by omega) with s1 | ⟨s1, s2⟩ | ⟨s1, s2, s3⟩ | ⟨s1, s2, s3, s4⟩
      all_goals
        clear hn hI hg
        go_enter Tryz.func21, Tryz.ntmps21
        go_wp2_with (go_at_call 19; refine (CV.out _).mono ?_; rintro e w1 ⟨rfl, hk1⟩; obtain ⟨q0, q1, q2, q3, q4, q5, q6, q7, q8, q9, q10⟩ := BA.out w1 hk1; have hz1 := lt_of_cell q0; have K1 := hide (((Below.refl _ w).alloc (Nat.le_refl _) (.cells #[.bool g.re.neg, .string g.re.n, .int .i64 g.re.e, .bool g.im.neg, .string g.im.n, .int .i64 g.im.e, .int .i64 g.exp, .int .i64 g.across, .int .i64 g.down, .int .i64 g.wide, .int .i64 g.high] 31)).trans (hk1.mono (by simp))); clear hk1)
        exact bodyPost_ret (v := .tuple #[.int .i64 0, .int .i64 241]) (by simp [results, Tryz.results21, go_sem]) rfl (HP.out _ K1.out)
  · have CV := hide (fun (W : World) => tcount_any g W hg)
    have BA : Hid (∀ W, Kept (w.alloc (.cells #[.bool g.re.neg, .string g.re.n, .int .i64 g.re.e, .bool g.im.neg, .string g.im.n, .int .i64 g.im.e, .int .i64 g.exp, .int .i64 g.across, .int .i64 g.down, .int .i64 g.wide, .int .i64 g.high] 31)) W → W.cell? ⟨w.heap.size, 0, none⟩ = some (.bool g.re.neg) ∧ W.cell? ⟨w.heap.size, 1, none⟩ = some (.string g.re.n) ∧ W.cell? ⟨w.heap.size, 2, none⟩ = some (.int .i64 g.re.e) ∧ W.cell? ⟨w.heap.size, 3, none⟩ = some (.bool g.im.neg) ∧ W.cell? ⟨w.heap.size, 4, none⟩ = some (.string g.im.n) ∧ W.cell? ⟨w.heap.size, 5, none⟩ = some (.int .i64 g.im.e) ∧ W.cell? ⟨w.heap.size, 6, none⟩ = some (.int .i64 g.exp) ∧ W.cell? ⟨w.heap.size, 7, none⟩ = some (.int .i64 g.across) ∧ W.cell? ⟨w.heap.size, 8, none⟩ = some (.int .i64 g.down) ∧ W.cell? ⟨w.heap.size, 9, none⟩ = some (.int .i64 g.wide) ∧ W.cell? ⟨w.heap.size, 10, none⟩ = some (.int .i64 g.high)) := fun W hW => ⟨(hW.cells w.heap.size 0 (by simp)).trans (by simp), (hW.cells w.heap.size 1 (by simp)).trans (by simp), (hW.cells w.heap.size 2 (by simp)).trans (by simp), (hW.cells w.heap.size 3 (by simp)).trans (by simp), (hW.cells w.heap.size 4 (by simp)).trans (by simp), (hW.cells w.heap.size 5 (by simp)).trans (by simp), (hW.cells w.heap.size 6 (by simp)).trans (by simp), (hW.cells w.heap.size 7 (by simp)).trans (by simp), (hW.cells w.heap.size 8 (by simp)).trans (by simp), (hW.cells w.heap.size 9 (by simp)).trans (by simp), (hW.cells w.heap.size 10 (by simp)).trans (by simp)⟩
    have hne : (gridI g != 0) = true := by simp [hI]
    have HP : Hid (∀ w', Kept w w' → AtPost g x y w (.returned (.tuple #[.int .i64 0, .int .i64 (gridI g)])) w') := fun w' h => ⟨by rw [if_neg hI], h⟩
    obtain ⟨E, hE⟩ : ∃ E, E = gridI g := ⟨_, rfl⟩
    rw [← hE] at CV hne HP
    clear hI hE hg
    go_enter Tryz.func21, Tryz.ntmps21
    go_wp2_with (go_at_call 19; refine (CV.out _).mono ?_; rintro e w1 ⟨rfl, hk1⟩; obtain ⟨q0, q1, q2, q3, q4, q5, q6, q7, q8, q9, q10⟩ := BA.out w1 hk1; have hz1 := lt_of_cell q0; have K1 := hide (((Below.refl _ w).alloc (Nat.le_refl _) (.cells #[.bool g.re.neg, .string g.re.n, .int .i64 g.re.e, .bool g.im.neg, .string g.im.n, .int .i64 g.im.e, .int .i64 g.exp, .int .i64 g.across, .int .i64 g.down, .int .i64 g.wide, .int .i64 g.high] 31)).trans (hk1.mono (by simp))); clear hk1)
    exact bodyPost_ret (v := .tuple #[.int .i64 0, .int .i64 E]) (by simp [results, Tryz.results21, go_sem]) rfl (HP.out _ K1.out)
end Go.Proofs.YtneakieigiafpaaGreatDoor

/- Where a cell lies: in just the rectangle that atN names. -/
namespace Go.Proofs.YtneakieigiafpaaGreatDoor
open Go.RowKit

theorem ediv_is {x w m : Int} (hw : 1 ≤ w) : x / w = m ↔ m * w ≤ x ∧ x < m * w + w := by
  constructor
  · rintro rfl
    have h1 := Int.mul_ediv_self_le (x := x) (k := w) (by omega)
    have h2 := Int.lt_mul_ediv_self_add (x := x) (k := w) (by omega)
    rw [Int.mul_comm] at h1 h2
    exact ⟨h1, h2⟩
  · rintro ⟨h1, h2⟩
    have a := (Int.le_ediv_iff_mul_le (show 0 < w by omega)).2 h1
    have b := Int.ediv_lt_of_lt_mul (show 0 < w by omega) (show x < (m + 1) * w by rw [Int.add_mul]; omega)
    omega
theorem quo_up {x w a : Int} (hw : 1 ≤ w) (_ : 0 ≤ x) (hx : x < a) : x / w < (a + w - 1) / w := by
  have h1 := Int.mul_ediv_self_le (x := x) (k := w) (by omega)
  have : x / w + 1 ≤ (a + w - 1) / w := (Int.le_ediv_iff_mul_le (by omega)).2 (by rw [Int.add_mul, Int.mul_comm]; omega)
  omega
theorem place_is {A q r n : Int} (hA : 1 ≤ A) (hr : 0 ≤ r) (hr' : r < A) : q * A + r = n ↔ q = n / A ∧ r = n % A := by
  have e := Int.mul_ediv_add_emod n A
  have m0 := Int.emod_nonneg n (show A ≠ 0 by omega)
  have m1 := Int.emod_lt_of_pos n (show 0 < A by omega)
  constructor
  · rintro rfl
    have : (q * A + r) / A = q := (ediv_is hA).2 ⟨by omega, by omega⟩
    rw [this] at e ⊢
    rw [Int.mul_comm A q] at e
    exact ⟨rfl, by omega⟩
  · rintro ⟨rfl, rfl⟩
    rw [Int.mul_comm]; exact e
theorem in_rect {g : GrD} (hB : GrBnd g) (x y n : Int) (x0 : 0 ≤ x) (x1 : x < g.across) (_ : 0 ≤ y) (y1 : y < g.down) :
    (rectX g n ≤ x ∧ x < rectX g n + rectW g n ∧ rectY g n ≤ y ∧ y < rectY g n + rectH g n) ↔ atN g x y = n := by
  have hw := hB.w0
  have hh := hB.h0
  have r1 : x / g.wide < gridA g := quo_up hw x0 x1
  have r0 : 0 ≤ x / g.wide := Int.ediv_nonneg x0 (by omega)
  unfold atN
  rw [place_is hB.gA.1 r0 r1, ediv_is hh, ediv_is hw]
  unfold rectW rectH rectX rectY
  omega
end Go.Proofs.YtneakieigiafpaaGreatDoor

/- TilePlaces, plain: the rectangles' cells together are the window's; a cell lies in just the rectangle that atN names. -/
namespace Go.Proofs.YtneakieigiafpaaGreatDoor
open Go.RowKit

/-- How many cells the first n rectangles have. -/
def areaN (g : GrD) (n : Int) : Int := min (n / gridA g * g.high) g.down * g.across + min (n % gridA g * g.wide) g.across * min g.high (g.down - n / gridA g * g.high)
theorem piece {w A : Int} (hw : 1 ≤ w) (_ : 1 ≤ A) : A ≤ (A + w - 1) / w * w ∧ ∀ j : Int, j < (A + w - 1) / w → j * w ≤ A := by
  have h1 := Int.emod_add_mul_ediv (A + w - 1) w
  have h2 := Int.emod_nonneg (A + w - 1) (show w ≠ 0 by omega)
  have h3 := Int.emod_lt_of_pos (A + w - 1) (show 0 < w by omega)
  rw [Int.mul_comm] at h1
  refine ⟨by omega, fun j hj => ?_⟩
  have h4 : (j + 1) * w ≤ (A + w - 1) / w * w := Int.mul_le_mul_of_nonneg_right (by omega) (by omega)
  rw [Int.add_mul] at h4
  omega
theorem area_zero {g : GrD} (hB : GrBnd g) : areaN g 0 = 0 := by
  have := hB.d0
  have := hB.a0
  unfold areaN
  simp
  rw [show min 0 g.down = 0 by omega, show min 0 g.across = 0 by omega]
  simp
theorem area_step {g : GrD} (hB : GrBnd g) {n : Int} (h0 : 0 ≤ n) (h1 : n < gridA g * gridD g) : areaN g (n + 1) = areaN g n + rectW g n * rectH g n := by
  have hA := hB.gA.1
  have hw := hB.w0
  have hh := hB.h0
  obtain ⟨pa, pb⟩ := piece hw hB.a0
  obtain ⟨da, db⟩ := piece hh hB.d0
  have eA : gridA g = (g.across + g.wide - 1) / g.wide := rfl
  have eD : gridD g = (g.down + g.high - 1) / g.high := rfl
  rw [← eA] at pa pb
  rw [← eD] at da db
  have e := Int.mul_ediv_add_emod n (gridA g)
  have m0 := Int.emod_nonneg n (show gridA g ≠ 0 by omega)
  have m1 := Int.emod_lt_of_pos n (show 0 < gridA g by omega)
  have q1 : n / gridA g < gridD g := Int.ediv_lt_of_lt_mul (by omega) (by rw [Int.mul_comm]; exact h1)
  have q0 : 0 ≤ n / gridA g := Int.ediv_nonneg h0 (by omega)
  unfold rectW rectH rectX rectY
  have hq := db _ q1
  have hr := pb _ m1
  generalize hQ : n / gridA g = Q at *
  generalize hR : n % gridA g = R at *
  by_cases hl : R + 1 < gridA g
  · have e2 := (place_is (A := gridA g) (q := Q) (r := R + 1) (n := n + 1) hA (by omega) hl).1 (by rw [Int.mul_comm]; omega)
    have hr2 := pb _ hl
    unfold areaN
    rw [← e2.1, ← e2.2, hQ, hR]
    rw [Int.add_mul] at hr2 ⊢
    rw [show min (R * g.wide + 1 * g.wide) g.across = min (R * g.wide) g.across + min g.wide (g.across - R * g.wide) by omega, Int.add_mul]
    omega
  · have hRA : R = gridA g - 1 := by omega
    have e2 := (place_is (A := gridA g) (q := Q + 1) (r := 0) (n := n + 1) hA (by omega) (by omega)).1 (by rw [Int.add_mul, Int.mul_comm]; omega)
    unfold areaN
    rw [← e2.1, ← e2.2, hQ, hR]
    have hfull : R * g.wide + g.wide = gridA g * g.wide := by rw [hRA, Int.sub_mul]; omega
    rw [show min (0 * g.wide) g.across = 0 by have := hB.a0; omega, Int.zero_mul, Int.add_zero]
    rw [Int.add_assoc, ← Int.add_mul, show min (R * g.wide) g.across + min g.wide (g.across - R * g.wide) = g.across by omega]
    rw [Int.mul_comm g.across, ← Int.add_mul]
    congr 1
    rw [Int.add_mul]
    omega
theorem area_end {g : GrD} (hB : GrBnd g) : areaN g (gridA g * gridD g) = g.across * g.down := by
  have hA := hB.gA.1
  obtain ⟨da, db⟩ := piece hB.h0 hB.d0
  have eD : gridD g = (g.down + g.high - 1) / g.high := rfl
  rw [← eD] at da
  have e2 := (place_is (A := gridA g) (q := gridD g) (r := 0) (n := gridA g * gridD g) hA (by omega) (by omega)).1 (by rw [Int.mul_comm]; omega)
  unfold areaN
  rw [← e2.1, ← e2.2, show min (0 * g.wide) g.across = 0 by have := hB.a0; omega, Int.zero_mul, Int.add_zero, show min (gridD g * g.high) g.down = g.down by omega, Int.mul_comm]
theorem area_bnd {g : GrD} (hB : GrBnd g) (n : Int) (h0 : 0 ≤ n) (h1 : n ≤ gridA g * gridD g) : 0 ≤ areaN g n ∧ areaN g n ≤ 17179869184 := by
  have hA := hB.gA.1
  have q0 : 0 ≤ n / gridA g := Int.ediv_nonneg h0 (by omega)
  have m0 := Int.emod_nonneg n (show gridA g ≠ 0 by omega)
  have x0 : 0 ≤ n / gridA g * g.high := Int.mul_nonneg q0 (by have := hB.h0; omega)
  have y0 : 0 ≤ n % gridA g * g.wide := Int.mul_nonneg m0 (by have := hB.w0; omega)
  have a0 := hB.a0
  have a1 := hB.a1
  have d0 := hB.d0
  have d1 := hB.d1
  have h1' := hB.h1
  obtain ⟨da, db⟩ := piece hB.h0 hB.d0
  have eD : gridD g = (g.down + g.high - 1) / g.high := rfl
  rw [← eD] at da db
  have e := Int.mul_ediv_add_emod n (gridA g)
  have hcase : n / gridA g < gridD g ∨ n % gridA g = 0 := by
    by_cases hlt : n / gridA g < gridD g
    · exact .inl hlt
    · right
      have h2 : gridA g * gridD g ≤ gridA g * (n / gridA g) := Int.mul_le_mul_of_nonneg_left (by omega) (by omega)
      omega
  have hc2 : n / gridA g * g.high ≤ g.down ∨ n % gridA g * g.wide = 0 := by
    rcases hcase with h | h
    · exact .inl (db _ h)
    · right; rw [h, Int.zero_mul]
  clear hcase e
  unfold areaN
  generalize hX : n / gridA g * g.high = X at *
  generalize hY : n % gridA g * g.wide = Y at *
  have t1 : 0 ≤ min X g.down * g.across := Int.mul_nonneg (by omega) (by omega)
  have t2 : min X g.down * g.across ≤ 65536 * 65536 := Int.mul_le_mul (by omega) a1 (by omega) (by decide)
  rcases hc2 with hle | hy
  · have t3 : 0 ≤ min Y g.across * min g.high (g.down - X) := Int.mul_nonneg (by omega) (by have := hB.h0; omega)
    have t4 : min Y g.across * min g.high (g.down - X) ≤ 65536 * 65536 := Int.mul_le_mul (by omega) (by omega) (by have := hB.h0; omega) (by decide)
    omega
  · rw [show min Y g.across = 0 by omega, Int.zero_mul]
    omega
theorem piece_up {w A r : Int} (hw : 1 ≤ w) (hr : r < (A + w - 1) / w) : r * w + 1 ≤ A := by
  have h1 := Int.mul_ediv_self_le (x := A + w - 1) (k := w) (by omega)
  have h4 : (r + 1) * w ≤ (A + w - 1) / w * w := Int.mul_le_mul_of_nonneg_right (by omega) (by omega)
  rw [Int.add_mul] at h4
  rw [Int.mul_comm] at h1
  omega
/-- A rectangle lies in its window, and has a cell. -/
theorem rect_lies {g : GrD} (hB : GrBnd g) {n : Int} (h0 : 0 ≤ n) (h1 : n < gridA g * gridD g) : 0 ≤ rectX g n ∧ rectX g n + rectW g n ≤ g.across ∧ 0 ≤ rectY g n ∧ rectY g n + rectH g n ≤ g.down ∧ 1 ≤ rectW g n ∧ 1 ≤ rectH g n := by
  have hA := hB.gA.1
  have hw := hB.w0
  have hh := hB.h0
  have m0 := Int.emod_nonneg n (show gridA g ≠ 0 by omega)
  have m1 := Int.emod_lt_of_pos n (show 0 < gridA g by omega)
  have d0 := Int.ediv_nonneg h0 (show 0 ≤ gridA g by omega)
  have p1 := Int.mul_nonneg m0 (show 0 ≤ g.wide by omega)
  have p2 := Int.mul_nonneg d0 (show 0 ≤ g.high by omega)
  have q1 : n / gridA g < gridD g := Int.ediv_lt_of_lt_mul (by omega) (by rw [Int.mul_comm]; exact h1)
  have e1 : n % gridA g * g.wide + 1 ≤ g.across := piece_up hw m1
  have e2 : n / gridA g * g.high + 1 ≤ g.down := piece_up hh q1
  unfold rectW rectH rectX rectY
  omega
theorem area_lt {g : GrD} (hB : GrBnd g) : ∀ (d a : Nat), (a + 1 + d : Int) ≤ gridA g * gridD g → areaN g a < areaN g (a + 1 + d : Nat)
  | 0, a, h => by
    have h0 : (0 : Int) ≤ a := Int.natCast_nonneg a
    have h1 : (a : Int) < gridA g * gridD g := by omega
    have e := area_step hB h0 h1
    obtain ⟨-, -, -, -, r1, r2⟩ := rect_lies hB h0 h1
    have : 0 < rectW g a * rectH g a := Int.mul_pos (by omega) (by omega)
    rw [show ((a + 1 + 0 : Nat) : Int) = (a : Int) + 1 by omega]
    omega
  | d + 1, a, h => by
    have h0 : (0 : Int) ≤ ((a + 1 + d : Nat) : Int) := Int.natCast_nonneg _
    have h1 : ((a + 1 + d : Nat) : Int) < gridA g * gridD g := by omega
    have e := area_step hB h0 h1
    obtain ⟨-, -, -, -, r1, r2⟩ := rect_lies hB h0 h1
    have : 0 < rectW g ((a + 1 + d : Nat) : Int) * rectH g ((a + 1 + d : Nat) : Int) := Int.mul_pos (by omega) (by omega)
    have ih := area_lt hB d a (by omega)
    rw [show ((a + 1 + (d + 1) : Nat) : Int) = ((a + 1 + d : Nat) : Int) + 1 by omega]
    omega
theorem area_inj {g : GrD} (hB : GrBnd g) {a b : Nat} (ha : (a : Int) ≤ gridA g * gridD g) (hb : (b : Int) ≤ gridA g * gridD g) (h : areaN g a = areaN g b) : a = b := by
  rcases Nat.lt_trichotomy a b with hlt | rfl | hlt
  · have := area_lt hB (b - a - 1) a (by omega)
    rw [show a + 1 + (b - a - 1) = b by omega] at this
    omega
  · rfl
  · have := area_lt hB (a - b - 1) b (by omega)
    rw [show b + 1 + (a - b - 1) = a by omega] at this
    omega
/-- Does the window have the cell? -/
def inG (g : GrD) (x y : Int) : Bool := decide (0 ≤ x) && decide (0 ≤ y) && decide (x < g.across) && decide (y < g.down)
theorem inG_iff {g : GrD} {x y : Int} : inG g x y = true ↔ 0 ≤ x ∧ 0 ≤ y ∧ x < g.across ∧ y < g.down := by unfold inG; simp [and_assoc]
def atV (g : GrD) (x y : Int) : Int := if inG g x y then atN g x y else 0
def erV (g : GrD) (x y : Int) : Int := if inG g x y then 0 else 241
/-- Which of the first n rectangles holds the cell. -/
def hasN (g : GrD) (x y n : Int) : Int := if inG g x y = true ∧ atN g x y < n then atN g x y else -1
theorem at_bnd {g : GrD} (hB : GrBnd g) {x y : Int} (h : inG g x y = true) : 0 ≤ atN g x y ∧ atN g x y < gridA g * gridD g := by
  obtain ⟨x0, y0, x1, y1⟩ := inG_iff.1 h
  have r1 : x / g.wide < gridA g := quo_up hB.w0 x0 x1
  have r0 : 0 ≤ x / g.wide := Int.ediv_nonneg x0 (by have := hB.w0; omega)
  have s1 : y / g.high < gridD g := quo_up hB.h0 y0 y1
  have s0 : 0 ≤ y / g.high := Int.ediv_nonneg y0 (by have := hB.h0; omega)
  have hA := hB.gA.1
  have p0 : 0 ≤ y / g.high * gridA g := Int.mul_nonneg s0 (by omega)
  have p1 : (y / g.high + 1) * gridA g ≤ gridD g * gridA g := Int.mul_le_mul_of_nonneg_right (by omega) (by omega)
  rw [Int.add_mul, Int.mul_comm (gridD g)] at p1
  unfold atN
  omega
theorem has_zero {g : GrD} (hB : GrBnd g) (x y : Int) : hasN g x y 0 = -1 := by
  unfold hasN
  by_cases h : inG g x y = true
  · have := at_bnd hB h; rw [if_neg (by omega)]
  · rw [if_neg (fun k => h k.1)]
/-- A rectangle that does not hold the cell. -/
theorem has_far {g : GrD} (hB : GrBnd g) {x y n : Int} (h : ¬ (rectX g n ≤ x ∧ x < rectX g n + rectW g n ∧ rectY g n ≤ y ∧ y < rectY g n + rectH g n)) : hasN g x y (n + 1) = hasN g x y n := by
  unfold hasN
  by_cases hi : inG g x y = true
  · obtain ⟨x0, y0, x1, y1⟩ := inG_iff.1 hi
    have hne : atN g x y ≠ n := fun e => h ((in_rect hB x y n x0 x1 y0 y1).2 e)
    by_cases hlt : atN g x y < n
    · rw [if_pos ⟨hi, by omega⟩, if_pos ⟨hi, hlt⟩]
    · rw [if_neg (by omega), if_neg (by omega)]
  · rw [if_neg (fun k => hi k.1), if_neg (fun k => hi k.1)]
/-- The rectangle that holds it. -/
theorem has_near {g : GrD} (hB : GrBnd g) {x y n : Int} (h0 : 0 ≤ n) (h1 : n < gridA g * gridD g) (h : rectX g n ≤ x ∧ x < rectX g n + rectW g n ∧ rectY g n ≤ y ∧ y < rectY g n + rectH g n) : hasN g x y n = -1 ∧ hasN g x y (n + 1) = n := by
  obtain ⟨r1, r2, r3, r4, -, -⟩ := rect_lies hB h0 h1
  have hi : inG g x y = true := inG_iff.2 ⟨by omega, by omega, by omega, by omega⟩
  have e := (in_rect hB x y n (by omega) (by omega) (by omega) (by omega)).1 h
  unfold hasN
  rw [if_neg (by omega), if_pos ⟨hi, by omega⟩]
  exact ⟨rfl, e⟩
theorem has_end {g : GrD} (hB : GrBnd g) (x y : Int) : hasN g x y (gridA g * gridD g) = if inG g x y then atN g x y else -1 := by
  unfold hasN
  by_cases hi : inG g x y = true
  · rw [if_pos ⟨hi, (at_bnd hB hi).2⟩, if_pos hi]
  · rw [if_neg (fun k => hi k.1), if_neg hi]
end Go.Proofs.YtneakieigiafpaaGreatDoor

/- tile.Rects and its closure: a range over the rectangles of a grid. -/
namespace Go.Proofs.YtneakieigiafpaaGreatDoor
open Go.RowKit Go.Shelf
attribute [local go_sem] Oper.semAt_some

def rectsN (g : GrD) : Nat := (cntA g * cntD g).toNat
def encR (g : GrD) (k : Nat) : Array Value := #[.int .i64 (k : Int), .agg #[.int .i64 (rectX g k), .int .i64 (rectY g k), .int .i64 (rectW g k), .int .i64 (rectH g k)]]
/-- The grid in a box. -/
def GBox (W : World) (b : Nat) (g : GrD) : Prop := W.cell? ⟨b, 0, none⟩ = some (.bool g.re.neg) ∧ W.cell? ⟨b, 1, none⟩ = some (.string g.re.n) ∧ W.cell? ⟨b, 2, none⟩ = some (.int .i64 g.re.e) ∧ W.cell? ⟨b, 3, none⟩ = some (.bool g.im.neg) ∧ W.cell? ⟨b, 4, none⟩ = some (.string g.im.n) ∧ W.cell? ⟨b, 5, none⟩ = some (.int .i64 g.im.e) ∧ W.cell? ⟨b, 6, none⟩ = some (.int .i64 g.exp) ∧ W.cell? ⟨b, 7, none⟩ = some (.int .i64 g.across) ∧ W.cell? ⟨b, 8, none⟩ = some (.int .i64 g.down) ∧ W.cell? ⟨b, 9, none⟩ = some (.int .i64 g.wide) ∧ W.cell? ⟨b, 10, none⟩ = some (.int .i64 g.high)
theorem GBox.below {W W' : World} {b B : Nat} {g : GrD} (h : GBox W b g) (hb : Below B W W') (hlt : b < B) : GBox W' b g :=
  ⟨(hb.cell (p := ⟨b, 0, none⟩) hlt).trans h.1, (hb.cell (p := ⟨b, 1, none⟩) hlt).trans h.2.1, (hb.cell (p := ⟨b, 2, none⟩) hlt).trans h.2.2.1, (hb.cell (p := ⟨b, 3, none⟩) hlt).trans h.2.2.2.1, (hb.cell (p := ⟨b, 4, none⟩) hlt).trans h.2.2.2.2.1, (hb.cell (p := ⟨b, 5, none⟩) hlt).trans h.2.2.2.2.2.1, (hb.cell (p := ⟨b, 6, none⟩) hlt).trans h.2.2.2.2.2.2.1, (hb.cell (p := ⟨b, 7, none⟩) hlt).trans h.2.2.2.2.2.2.2.1, (hb.cell (p := ⟨b, 8, none⟩) hlt).trans h.2.2.2.2.2.2.2.2.1, (hb.cell (p := ⟨b, 9, none⟩) hlt).trans h.2.2.2.2.2.2.2.2.2.1, (hb.cell (p := ⟨b, 10, none⟩) hlt).trans h.2.2.2.2.2.2.2.2.2.2⟩
theorem GBox.new (W : World) (g : GrD) (t : TypeId) (b : Nat) (hb : b = W.heap.size) : GBox (W.alloc (.cells #[.bool g.re.neg, .string g.re.n, .int .i64 g.re.e, .bool g.im.neg, .string g.im.n, .int .i64 g.im.e, .int .i64 g.exp, .int .i64 g.across, .int .i64 g.down, .int .i64 g.wide, .int .i64 g.high] t)) b g := by
  subst hb; exact ⟨by simp, by simp, by simp, by simp, by simp, by simp, by simp, by simp, by simp, by simp, by simp⟩
theorem kept_grown {W W' : World} (h : Kept W W') : W.grownBy W' none := ⟨h.os, h.tape, h.output, h.size, fun k hk _ => h.block k hk⟩
theorem cnt_bnd (g : GrD) : 0 ≤ cntA g ∧ 0 ≤ cntD g ∧ cntA g ≤ 65536 ∧ cntD g ≤ 65536 ∧ cntA g * cntD g ≤ 65536 ∧ 0 ≤ cntA g * cntD g := by
  by_cases h : gridI g = 0
  · obtain ⟨hB, hm⟩ := gridI_ok h
    have h1 := hB.gA
    have h2 := hB.gD
    rw [show cntA g = gridA g by simp [cntA, h], show cntD g = gridD g by simp [cntD, h]]
    exact ⟨by omega, by omega, by omega, by omega, hm, Int.mul_nonneg (by omega) (by omega)⟩
  · rw [show cntA g = 0 by simp [cntA, h], show cntD g = 0 by simp [cntD, h]]
    omega

set_option maxRecDepth 100000 in
set_option maxHeartbeats 2000000 in
theorem rects1_in (n : Nat) (hn : 1 ≤ n) (l Bs n₀ : Nat) (g : GrD) (hg : g.ok) (hb : Bs < n₀) (J Jx : List Nat → World → Prop) (B : Nat) (hJ : AbidesFrom B J)
    (hY : ∀ k W, k < rectsN g → J (List.range k) W → YieldAt Fence.wide (n - 1) Tryz.prog l (encR g k) W fun e W' =>
      (e = .returned (.bool true) ∧ J (List.range k ++ [k]) W' ∧ Below n₀ W W') ∨ (e = .returned (.bool false) ∧ Jx (List.range k ++ [k]) W'))
    (W : World) (hn0 : n₀ ≤ W.heap.size) (hB : GBox W Bs g) (h0 : J [] W) :
    CallsIn Fence.wide n Tryz.prog 60 #[.func (.yield l) #[] #[], .pointer (some ⟨Bs, 0, none⟩)] W fun e W' => (∃ v, e = .returned v) ∧
      ((∃ ys, ys = List.range (rectsN g) ∧ J ys W') ∨ (∃ pre, (∃ k, k ≤ rectsN g ∧ pre = List.range k) ∧ Jx pre W')) := by
  have CN := hide (fun (X : World) => tcount_any g X hg)
  have CR : Hid (∀ (X : World) (k : Nat), k < rectsN g → Calls Tryz.prog 59 #[.agg #[.bool g.re.neg, .string g.re.n, .int .i64 g.re.e, .bool g.im.neg, .string g.im.n, .int .i64 g.im.e, .int .i64 g.exp, .int .i64 g.across, .int .i64 g.down, .int .i64 g.wide, .int .i64 g.high], .int .i64 k] X fun e w' => e = .returned (.agg #[.int .i64 (rectX g k), .int .i64 (rectY g k), .int .i64 (rectW g k), .int .i64 (rectH g k)]) ∧ Kept X w') := fun X k hk => by
    have hc := cnt_bnd g
    have hI : gridI g = 0 := by
      by_cases h : gridI g = 0
      · exact h
      · simp [rectsN, cntA, h] at hk
    exact rect_any g k X (gridI_ok hI).1 (by omega) (by unfold rectsN at hk; omega)
  obtain ⟨b1, b2, b3, b4, b5, b6⟩ := cnt_bnd g
  have HN := hide (show ((rectsN g : Nat) : Int) = cntA g * cntD g from Int.toNat_of_nonneg b6)
  obtain ⟨E, hE⟩ : ∃ E, E = gridI g := ⟨_, rfl⟩
  obtain ⟨N, hN⟩ : ∃ N, N = rectsN g := ⟨_, rfl⟩
  rw [← hE] at CN
  rw [← hN] at CR HN hY ⊢
  clear hE hN
  generalize cntA g = a at *
  generalize cntD g = d at *
  have HB := hide hB
  refine callsIn_of_wp Tryz.func60 rfl trivial ?_ rfl
  simp only [Tryz.ntmps60, List.size_toArray, List.length_cons, List.length_nil, Nat.reduceAdd, Nat.reduceSub, Array.replicate_succ, Array.replicate_zero, List.push_toArray, List.append_toArray, List.nil_append, List.cons_append]
  obtain ⟨q0, q1, q2, q3, q4, q5, q6, q7, q8, q9, q10⟩ := hB
  gi_wp2_with (refine ⟨trivial, ?_⟩; gi_at_call 19; refine (callsIn_wide.2 (CN.out _)).mono ?_; rintro e w1 ⟨rfl, hk1⟩)
  have hJ1 : J [] w1 := hJ [] W w1 none h0 (kept_grown hk1) (by simp)
  have HB1 := hide (HB.out.below (hk1.mono hn0) hb)
  have hn1 : n₀ ≤ w1.heap.size := Nat.le_trans hn0 hk1.size
  clear q0 q1 q2 q3 q4 q5 q6 q7 q8 q9 q10 hk1
  gi_loopw [16] (fun i wr => ∃ k : Nat, k ≤ N ∧ i = .int .i64 k ∧ J (List.range k) wr ∧ GBox wr Bs g ∧ n₀ ≤ wr.heap.size) (fun i _ => N - (intOf i).toNat)
  case atStart => exact ⟨0, Nat.zero_le _, rfl, hJ1, HB1.out, hn1⟩
  case round =>
    obtain ⟨k, hk, rfl, hJs, hbx, hsz⟩ := hrel
    have HBX := hide hbx
    by_cases hlt : k < N
    · have hlI : (k : Int) < a * d := by have := HN.out; omega
      obtain ⟨q0, q1, q2, q3, q4, q5, q6, q7, q8, q9, q10⟩ := hbx
      gi_wp2_with (refine ⟨trivial, ?_⟩; gi_at_call 59; refine (callsIn_wide.2 (CR.out _ k hlt)).mono ?_; rintro e w2 ⟨rfl, hk2⟩; obtain ⟨fn, tmps, assign, body, hy, hR⟩ := hY k w2 hlt (hJ _ wr w2 none hJs (kept_grown hk2) (by simp)); dsimp only [encR] at hy)
      have HBW := hide ((HBX.out.below (hk2.mono hsz) hb))
      have hsz2 : n₀ ≤ w2.heap.size := Nat.le_trans hsz hk2.size
      clear q0 q1 q2 q3 q4 q5 q6 q7 q8 q9 q10
      refine hR.mono ?_
      rintro e W3 (⟨rfl, hJ3, hk3⟩ | ⟨rfl, hJx3⟩)
      · have HB3 := hide (HBW.out.below hk3 hb)
        have HJ3 : Hid (J (List.range (k + 1)) W3) := by show J _ _; rw [List.range_succ]; exact hJ3
        have hsz3 : n₀ ≤ W3.heap.size := Nat.le_trans hsz2 hk3.size
        clear hk3 hJ3
        gi_wp2
        go_roundw
        case rel => exact ⟨k + 1, by omega, by simp, HJ3.out, HB3.out, hsz3⟩
        case measure => simp [intOf]; omega
      · have HX3 : Hid (Jx (List.range (k + 1)) W3) := by show Jx _ _; rw [List.range_succ]; exact hJx3
        gi_wp2
        refine bodyPost_ret (results_none rfl _ _ _) rfl ?_
        exact ⟨⟨_, rfl⟩, .inr ⟨_, ⟨k + 1, by omega, rfl⟩, HX3.out⟩⟩
    · have hge : ¬ (k : Int) < a * d := by have := HN.out; omega
      obtain rfl : k = N := by omega
      gi_wp2
      go_end0
      exact ⟨⟨_, rfl⟩, .inl hJs⟩
theorem rects_stops (n : Nat) (hn : 1 ≤ n) (Bs n₀ : Nat) (g : GrD) (hg : g.ok) (w : World) (hb : Bs < n₀) (hn₀ : n₀ ≤ w.heap.size) (hB : GBox w Bs g) :
    SeqStopsK Fence.wide n Tryz.prog 60 #[.pointer (some ⟨Bs, 0, none⟩)] (encR g) (Below n₀) (fun ys => ys = List.range (rectsN g)) (fun pre => ∃ k, k ≤ rectsN g ∧ pre = List.range k) (rectsN g) w := fun l J Jx W hW hJ _ hY h0 =>
  rects1_in n hn l Bs n₀ g hg hb J Jx _ hJ (fun k W1 hk hj => hY (List.range k) k W1 hj (by simp; exact hk)) W (Nat.le_trans hn₀ hW.size) (hB.below (hW.mono hn₀) hb) h0
/-- The same, each index with its bound. -/
theorem rects_stopsF (n : Nat) (hn : 1 ≤ n) (Bs n₀ : Nat) (g : GrD) (hg : g.ok) (w : World) (hb : Bs < n₀) (hn₀ : n₀ ≤ w.heap.size) (hB : GBox w Bs g) :
    SeqStopsK Fence.wide n Tryz.prog 60 #[.pointer (some ⟨Bs, 0, none⟩)] (fun k : Fin (rectsN g) => encR g k.val) (Below n₀) (fun ys => ys.map (fun k => k.val) = List.range (rectsN g)) (fun pre => ∃ k, k ≤ rectsN g ∧ pre.map (fun k => k.val) = List.range k) (rectsN g) w := by
  intro l J Jx W hW hJ hJx hY h0
  refine (rects1_in n hn l Bs n₀ g hg hb (fun pre W => ∃ pre' : List (Fin (rectsN g)), pre'.map (fun k => k.val) = pre ∧ J pre' W) (fun pre W => ∃ pre' : List (Fin (rectsN g)), pre'.map (fun k => k.val) = pre ∧ Jx pre' W) _
    (fun s A B row hs h1 h2 => by obtain ⟨p', e, h⟩ := hs; exact ⟨p', e, hJ p' A B row h h1 h2⟩)
    (fun k W1 hk hj => ?_) W (Nat.le_trans hn₀ hW.size) (hB.below (hW.mono hn₀) hb) ⟨[], rfl, h0⟩).mono ?_
  · obtain ⟨p', e, h⟩ := hj
    have hlen : p'.length < rectsN g := by have := congrArg List.length e; simp at this; omega
    refine (hY p' ⟨k, hk⟩ W1 h hlen).mono ?_
    rintro e1 W2 (⟨rfl, h1, h2⟩ | ⟨rfl, h1⟩)
    · exact .inl ⟨rfl, ⟨p' ++ [⟨k, hk⟩], by simp [e], h1⟩, h2⟩
    · exact .inr ⟨rfl, ⟨p' ++ [⟨k, hk⟩], by simp [e], h1⟩⟩
  · rintro e1 W2 ⟨hv, ⟨ys, rfl, p', e, h⟩ | ⟨pre, ⟨k, hk, rfl⟩, p', e, h⟩⟩
    · exact ⟨hv, .inl ⟨p', e, h⟩⟩
    · exact ⟨hv, .inr ⟨p', ⟨k, hk, e⟩, h⟩⟩
/-- tile.Rects hands back its closure, the grid in a box. -/
theorem rects_any (g : GrD) (w : World) : Calls Tryz.prog 22 #[.agg #[.bool g.re.neg, .string g.re.n, .int .i64 g.re.e, .bool g.im.neg, .string g.im.n, .int .i64 g.im.e, .int .i64 g.exp, .int .i64 g.across, .int .i64 g.down, .int .i64 g.wide, .int .i64 g.high]] w fun e w' => e = .returned (.func (.func 60) #[] #[.pointer (some ⟨w.heap.size, 0, none⟩)]) ∧ w' = w.alloc (.cells #[.bool g.re.neg, .string g.re.n, .int .i64 g.re.e, .bool g.im.neg, .string g.im.n, .int .i64 g.im.e, .int .i64 g.exp, .int .i64 g.across, .int .i64 g.down, .int .i64 g.wide, .int .i64 g.high] 31) := by
  go_enter Tryz.func22, Tryz.ntmps22
  go_wp2
  go_ret
  exact ⟨rfl, rfl⟩
end Go.Proofs.YtneakieigiafpaaGreatDoor

/- A region that draws its order and only reads, in a round of a range over a function: one walk of the text's order (Derived/Sort/QuietThIn.lean's theorem, its premise 'no round' turned into 'no operation is a defer'). -/
namespace Go.Proofs.YtneakieigiafpaaGreatDoor
section
variable {F : Fence} {n : Nat} {P : Program} {md : Region.Mode} {ops : Array Oper} {C : World → Prop}

theorem wpIn_of_quietR {o : Oper} {a : Act} {K : Act → Prop} {K' : Act → World → Prop} {Q' : Exit → Act → World → Prop} {w : World} (hd : ∀ c, o.op ≠ .defer c) (hw : C w) (h : ∀ a w', C w' → K a → K' a w')
    (ha : o.askedIn F P a C) (hh : o.quietIn F n P a C K) : o.wpIn F n P a w K' Q' := by
  obtain ⟨v, h1, h2⟩ := hh
  have h3 := h1 w hw
  unfold Oper.quietAtIn at h3
  unfold Oper.wpIn
  refine ⟨ha w hw, ?_⟩
  rw [Oper.semAt_eq _ _ _ hd]
  generalize (execOp a.eval o).run P w = r at *
  cases r with
  | ok x w' =>
    cases x <;> simp only [Oper.quietUponIn] at h3 <;> simp only [Oper.uponIn]
    case value u =>
      obtain ⟨e1, e2⟩ := h3
      rw [e1, e2]
      exact h _ _ hw h2
    case skip =>
      obtain ⟨e1, e2⟩ := h3
      rw [e1, ← e2]
      exact h _ _ hw h2
    case enter f args =>
      obtain ⟨e1, hd, hc⟩ := h3
      rw [e1]
      exact ⟨hd, hc.mono fun e w'' ⟨he, hw''⟩ => by subst he; exact h _ _ hw'' h2⟩
  | halt x w' => simp only [Oper.quietUponIn] at h3

def plainOps (l : List Oper) : Bool := l.all fun o => match o.op with | .defer _ => false | _ => true
theorem plainOps_spec {ops : Array Oper} (h : plainOps ops.toList = true) {i : Nat} {o : Oper} (ho : ops[i]? = some o) : ∀ c, o.op ≠ .defer c := by
  intro c e
  have h1 := List.all_eq_true.1 h o (by rw [Array.mem_toList_iff]; exact Array.mem_of_getElem? ho)
  rw [e] at h1
  cases h1

theorem wpOpIn_of_qOpInR {i : Nat} {a : Act} {K : Act → Prop} {K' : Act → World → Prop} {Q' : Exit → Act → World → Prop} {w : World} (hp : plainOps ops.toList = true) (hC : C w) (h : ∀ a w', C w' → K a → K' a w')
    (hh : qOpIn F n P ops C i K a) : wpOpIn F n P ops Q' i K' a w := by
  unfold qOpIn at hh
  unfold wpOpIn
  split
  · rename_i ho; simp only [ho] at hh; exact h _ _ hC hh
  · rename_i o ho
    simp only [ho] at hh
    obtain ⟨ha, hh⟩ := hh
    split
    · rename_i hw; simp only [hw, if_true] at hh; exact wpIn_of_quietR (plainOps_spec hp ho) hC h ha hh
    · rename_i hw; simp only [hw] at hh; exact ⟨ha w hC, h _ _ hC hh⟩

theorem wpAnyIn_of_quietR {Q : Act → Prop} {Q' : Exit → Act → World → Prop} (hp : plainOps ops.toList = true) (hQ : ∀ a w, C w → Q a → Q' .normal a w) : ∀ (fuel : Nat) (listed : Array Bool) (a : Act) (w : World), C w →
    wpAnyQIn F n P md ops C Q fuel listed a → wpAnyIn F n P md ops Q' fuel listed a w
  | 0, _, _, _, hw, h => ⟨h.1, hQ _ _ hw h.2⟩
  | fuel + 1, _, _, _, hw, h => ⟨fun h0 => hQ _ _ hw (h.1 h0), fun i hi => wpOpIn_of_qOpInR hp hw (fun a' w' hw' => wpAnyIn_of_quietR hp hQ fuel _ a' w' hw') (h.2 i hi)⟩

theorem wpIn_region_quietR {id : Nat} {Q : Exit → Act → World → Prop} {a : Act} {w : World} (hp : plainOps ops.toList = true) (hm : P.follows .mixedOrders = true) (hB : Region.lexB .any ops = true) (hC : C { w with drawn := w.drawn + 1 })
    (h : wpQuietIn F n P ops C (fun a' => ∀ w', C w' → Q .normal a' w') ops.toList a) : (Code.region id ops true).wpIn F n P Q a w := by
  simp only [Region.lexB, Bool.and_eq_true] at hB
  refine wpIn_region_any hm (wpAnyIn_of_quietR (Q := fun a' => ∀ w', C w' → Q .normal a' w') hp (fun _ w' hw' h => h w' hw') _ _ _ _ hC ?_)
  have := wpAnyQIn_lex (F := F) (n := n) (C := C) (md := .any) hB.1 ops.toList 0 (Array.replicate ops.size false) a (by simp) (by simpa using hB.2) h
  simpa using this
end

theorem wpIn_region_quiet_litR {F : Fence} {n : Nat} {P : Program} {id : Nat} {Q : Exit → Act → World → Prop} {a : Act} {w : World} {l : List Oper} (hp : plainOps l.toArray.toList = true) (hm : P.follows .mixedOrders = true) (hB : Region.lexB .any l.toArray = true)
    (h : wpQuietIn F n P l.toArray (fun w' => ∃ n, w' = w.drewN n) (fun a' => ∀ w', (∃ n, w' = w.drewN n) → Q .normal a' w') l a) : (Code.region id l.toArray true).wpIn F n P Q a w :=
  wpIn_region_quietR (C := fun w' => ∃ n, w' = w.drewN n) hp hm hB ⟨1, rfl⟩ (by simpa using h)

end Go.Proofs.YtneakieigiafpaaGreatDoor

/- A drawn region in a round of a range over a function: what is shown of it by the laws of text Held (plain walks) holds in the round too, where no operation is a defer. -/
namespace Go.Proofs.YtneakieigiafpaaGreatDoor
section
variable {P : Program} {ops : Array Oper} {Q : Exit → Act → World → Prop} {md : Region.Mode} {S : World → Prop} {last l n : Nat}

theorem Oper.wpIn_of_wp {o : Oper} {a : Act} {w : World} {next : Act → World → Prop} (hd : ∀ c, o.op ≠ .defer c) (h : Oper.wp P o a w next Q) : o.wpIn (Fence.wide.inRound l) n P a w next Q := by
  unfold Oper.wp at h
  unfold Oper.wpIn
  refine ⟨fun _ _ => trivial, ?_⟩
  rw [Oper.semAt_eq _ _ _ hd]
  generalize (execOp a.eval o).run P w = r at *
  cases r with
  | ok x w' =>
    cases x <;> simp only [Oper.upon] at h <;> simp only [Oper.uponIn]
    case value => exact h
    case skip => exact h
    case defer => exact h
    case enter f args => exact ⟨fun h0 => by simp [Fence.inRound, Fence.wide] at h0, callsIn_wide.2 h⟩
    case row r args => exact ⟨fun h0 => by simp [Fence.inRound, Fence.wide] at h0, fun c cs _ => let ⟨v, w2, r9, s9⟩ := h c cs; ⟨v, w2, r9, stepsIn_wide.2 s9⟩⟩
  | halt x w' => cases x <;> simp only [Oper.upon] at h <;> simp only [Oper.uponIn]; exact h

/-- The normal way out, and no other. -/
def OnlyN (Q : Exit → Act → World → Prop) : Exit → Act → World → Prop
  | .normal, a, w => Q .normal a w
  | _, _, _ => False
theorem OnlyN.ok {a : Act} {w : World} (h : Q .normal a w) : OnlyN Q .normal a w := h
theorem OnlyN.imp : ∀ (e : Exit) (a : Act) (w : World), OnlyN Q e a w → Q e a w := fun e a w h => by
  cases e <;> first | exact h | exact (h : False).elim
theorem OnlyN.out : ¬ LetsOut (OnlyN Q) := fun ⟨_, _, h⟩ => h

theorem wpAnyIn_of_wpAny (hp : plainOps ops.toList = true) (hout : ¬ LetsOut Q) : ∀ (fuel : Nat) (listed : Array Bool) (a : Act) (w : World), wpAny P md ops Q fuel listed a w → wpAnyIn (Fence.wide.inRound l) n P md ops Q fuel listed a w
  | 0, _, _, _, h => h
  | fuel + 1, listed, a, w, h => ⟨h.1, fun i hi => by
    have h1 := h.2 i hi
    unfold wpOp at h1
    unfold wpOpIn
    split
    · rename_i ho; simp only [ho] at h1; exact wpAnyIn_of_wpAny hp hout fuel _ _ _ h1
    · rename_i o ho
      simp only [ho] at h1
      split
      · rename_i hw
        simp only [hw, if_true] at h1
        rcases h1 with h1 | h1
        · exact Oper.wpIn_of_wp (plainOps_spec hp ho) (Oper.wp_mono (fun a' w' h' => wpAnyIn_of_wpAny hp hout fuel _ a' w' h') h1)
        · exact absurd h1.2 hout
      · rename_i hw
        simp only [hw] at h1
        exact ⟨fun _ _ => trivial, wpAnyIn_of_wpAny hp hout fuel _ _ _ h1⟩⟩

theorem wpIn_region_L {id : Nat} {a : Act} {w : World} (S : World → Prop) (last : Nat) (hp : plainOps ops.toList = true) (hm : P.follows .mixedOrders = true) (hS : S w.drew)
    (h : S w.drew → wpAnyL P .any ops (OnlyN Q) S last ops.size (Array.replicate ops.size false) a w.drew) : (Code.region id ops true).wpIn (Fence.wide.inRound l) n P Q a w :=
  wpIn_mono (wpIn_region_any hm (wpAnyIn_of_wpAny hp OnlyN.out _ _ _ _ (wpAny_of_L _ _ _ _ (h hS)))) OnlyN.imp
end
end Go.Proofs.YtneakieigiafpaaGreatDoor

/- A range over tile.Rects whose rounds write anywhere but into the iterator's own box. -/
namespace Go.Proofs.YtneakieigiafpaaGreatDoor
open Go.RowKit Go.Shelf
attribute [local go_sem] Oper.semAt_some

set_option maxRecDepth 100000 in
set_option maxHeartbeats 2000000 in
theorem rects1_inK (Kp : World → World → Prop) (n : Nat) (hn : 1 ≤ n) (l Bs n₀ : Nat) (g : GrD) (hK1 : ∀ X Y, Kp X Y → GBox X Bs g → GBox Y Bs g) (hK2 : ∀ X Y, Kp X Y → X.heap.size ≤ Y.heap.size) (hg : g.ok) (hb : Bs < n₀) (J Jx : List Nat → World → Prop) (B : Nat) (hJ : AbidesFrom B J)
    (hY : ∀ k W, k < rectsN g → J (List.range k) W → YieldAt Fence.wide (n - 1) Tryz.prog l (encR g k) W fun e W' =>
      (e = .returned (.bool true) ∧ J (List.range k ++ [k]) W' ∧ Kp W W') ∨ (e = .returned (.bool false) ∧ Jx (List.range k ++ [k]) W'))
    (W : World) (hn0 : n₀ ≤ W.heap.size) (hB : GBox W Bs g) (h0 : J [] W) :
    CallsIn Fence.wide n Tryz.prog 60 #[.func (.yield l) #[] #[], .pointer (some ⟨Bs, 0, none⟩)] W fun e W' => (∃ v, e = .returned v) ∧
      ((∃ ys, ys = List.range (rectsN g) ∧ J ys W') ∨ (∃ pre, (∃ k, k ≤ rectsN g ∧ pre = List.range k) ∧ Jx pre W')) := by
  have CN := hide (fun (X : World) => tcount_any g X hg)
  have CR : Hid (∀ (X : World) (k : Nat), k < rectsN g → Calls Tryz.prog 59 #[.agg #[.bool g.re.neg, .string g.re.n, .int .i64 g.re.e, .bool g.im.neg, .string g.im.n, .int .i64 g.im.e, .int .i64 g.exp, .int .i64 g.across, .int .i64 g.down, .int .i64 g.wide, .int .i64 g.high], .int .i64 k] X fun e w' => e = .returned (.agg #[.int .i64 (rectX g k), .int .i64 (rectY g k), .int .i64 (rectW g k), .int .i64 (rectH g k)]) ∧ Kept X w') := fun X k hk => by
    have hc := cnt_bnd g
    have hI : gridI g = 0 := by
      by_cases h : gridI g = 0
      · exact h
      · simp [rectsN, cntA, h] at hk
    exact rect_any g k X (gridI_ok hI).1 (by omega) (by unfold rectsN at hk; omega)
  obtain ⟨b1, b2, b3, b4, b5, b6⟩ := cnt_bnd g
  have HN := hide (show ((rectsN g : Nat) : Int) = cntA g * cntD g from Int.toNat_of_nonneg b6)
  obtain ⟨E, hE⟩ : ∃ E, E = gridI g := ⟨_, rfl⟩
  obtain ⟨N, hN⟩ : ∃ N, N = rectsN g := ⟨_, rfl⟩
  rw [← hE] at CN
  rw [← hN] at CR HN hY ⊢
  clear hE hN
  generalize cntA g = a at *
  generalize cntD g = d at *
  have HB := hide hB
  refine callsIn_of_wp Tryz.func60 rfl trivial ?_ rfl
  simp only [Tryz.ntmps60, List.size_toArray, List.length_cons, List.length_nil, Nat.reduceAdd, Nat.reduceSub, Array.replicate_succ, Array.replicate_zero, List.push_toArray, List.append_toArray, List.nil_append, List.cons_append]
  obtain ⟨q0, q1, q2, q3, q4, q5, q6, q7, q8, q9, q10⟩ := hB
  gi_wp2_with (refine ⟨trivial, ?_⟩; gi_at_call 19; refine (callsIn_wide.2 (CN.out _)).mono ?_; rintro e w1 ⟨rfl, hk1⟩)
  have hJ1 : J [] w1 := hJ [] W w1 none h0 (kept_grown hk1) (by simp)
  have HB1 := hide (HB.out.below (hk1.mono hn0) hb)
  have hn1 : n₀ ≤ w1.heap.size := Nat.le_trans hn0 hk1.size
  clear q0 q1 q2 q3 q4 q5 q6 q7 q8 q9 q10 hk1
  gi_loopw [16] (fun i wr => ∃ k : Nat, k ≤ N ∧ i = .int .i64 k ∧ J (List.range k) wr ∧ GBox wr Bs g ∧ n₀ ≤ wr.heap.size) (fun i _ => N - (intOf i).toNat)
  case atStart => exact ⟨0, Nat.zero_le _, rfl, hJ1, HB1.out, hn1⟩
  case round =>
    obtain ⟨k, hk, rfl, hJs, hbx, hsz⟩ := hrel
    have HBX := hide hbx
    by_cases hlt : k < N
    · have hlI : (k : Int) < a * d := by have := HN.out; omega
      obtain ⟨q0, q1, q2, q3, q4, q5, q6, q7, q8, q9, q10⟩ := hbx
      gi_wp2_with (refine ⟨trivial, ?_⟩; gi_at_call 59; refine (callsIn_wide.2 (CR.out _ k hlt)).mono ?_; rintro e w2 ⟨rfl, hk2⟩; obtain ⟨fn, tmps, assign, body, hy, hR⟩ := hY k w2 hlt (hJ _ wr w2 none hJs (kept_grown hk2) (by simp)); dsimp only [encR] at hy)
      have HBW := hide ((HBX.out.below (hk2.mono hsz) hb))
      have hsz2 : n₀ ≤ w2.heap.size := Nat.le_trans hsz hk2.size
      clear q0 q1 q2 q3 q4 q5 q6 q7 q8 q9 q10
      refine hR.mono ?_
      rintro e W3 (⟨rfl, hJ3, hk3⟩ | ⟨rfl, hJx3⟩)
      · have HB3 := hide (hK1 _ _ hk3 HBW.out)
        have HJ3 : Hid (J (List.range (k + 1)) W3) := by show J _ _; rw [List.range_succ]; exact hJ3
        have hsz3 : n₀ ≤ W3.heap.size := Nat.le_trans hsz2 (hK2 _ _ hk3)
        clear hk3 hJ3
        gi_wp2
        go_roundw
        case rel => exact ⟨k + 1, by omega, by simp, HJ3.out, HB3.out, hsz3⟩
        case measure => simp [intOf]; omega
      · have HX3 : Hid (Jx (List.range (k + 1)) W3) := by show Jx _ _; rw [List.range_succ]; exact hJx3
        gi_wp2
        refine bodyPost_ret (results_none rfl _ _ _) rfl ?_
        exact ⟨⟨_, rfl⟩, .inr ⟨_, ⟨k + 1, by omega, rfl⟩, HX3.out⟩⟩
    · have hge : ¬ (k : Int) < a * d := by have := HN.out; omega
      obtain rfl : k = N := by omega
      gi_wp2
      go_end0
      exact ⟨⟨_, rfl⟩, .inl hJs⟩
/-- tile.Rects's closure; a round may write wherever its box stays. -/
theorem rects_stopsK (Kp : World → World → Prop) (n : Nat) (hn : 1 ≤ n) (Bs n₀ : Nat) (g : GrD) (hK1 : ∀ X Y, Kp X Y → GBox X Bs g → GBox Y Bs g) (hK2 : ∀ X Y, Kp X Y → X.heap.size ≤ Y.heap.size) (hg : g.ok) (w : World) (hb : Bs < n₀) (hn₀ : n₀ ≤ w.heap.size) (hB : GBox w Bs g) :
    SeqStopsK Fence.wide n Tryz.prog 60 #[.pointer (some ⟨Bs, 0, none⟩)] (fun k : Fin (rectsN g) => encR g k.val) Kp (fun ys => ys.map (fun k => k.val) = List.range (rectsN g)) (fun pre => ∃ k, k ≤ rectsN g ∧ pre.map (fun k => k.val) = List.range k) (rectsN g) w := by
  intro l J Jx W hW hJ hJx hY h0
  refine (rects1_inK Kp n hn l Bs n₀ g hK1 hK2 hg hb (fun pre W => ∃ pre' : List (Fin (rectsN g)), pre'.map (fun k => k.val) = pre ∧ J pre' W) (fun pre W => ∃ pre' : List (Fin (rectsN g)), pre'.map (fun k => k.val) = pre ∧ Jx pre' W) _
    (fun s A B row hs h1 h2 => by obtain ⟨p', e, h⟩ := hs; exact ⟨p', e, hJ p' A B row h h1 h2⟩)
    (fun k W1 hk hj => ?_) W (Nat.le_trans hn₀ hW.size) (hB.below (hW.mono hn₀) hb) ⟨[], rfl, h0⟩).mono ?_
  · obtain ⟨p', e, h⟩ := hj
    have hlen : p'.length < rectsN g := by have := congrArg List.length e; simp at this; omega
    refine (hY p' ⟨k, hk⟩ W1 h hlen).mono ?_
    rintro e1 W2 (⟨rfl, h1, h2⟩ | ⟨rfl, h1⟩)
    · exact .inl ⟨rfl, ⟨p' ++ [⟨k, hk⟩], by simp [e], h1⟩, h2⟩
    · exact .inr ⟨rfl, ⟨p' ++ [⟨k, hk⟩], by simp [e], h1⟩⟩
  · rintro e1 W2 ⟨hv, ⟨ys, rfl, p', e, h⟩ | ⟨pre, ⟨k, hk, rfl⟩, p', e, h⟩⟩
    · exact ⟨hv, .inl ⟨p', e, h⟩⟩
    · exact ⟨hv, .inr ⟨p', ⟨k, hk, e⟩, h⟩⟩
/-- The block Bs stays as it is. -/
def BKeep (Bs : Nat) (X Y : World) : Prop := X.heap.size ≤ Y.heap.size ∧ ∀ o v, X.cell? ⟨Bs, o, none⟩ = some v → Y.cell? ⟨Bs, o, none⟩ = some v
theorem BKeep.trans {Bs : Nat} {X Y Z : World} (h : BKeep Bs X Y) (k : BKeep Bs Y Z) : BKeep Bs X Z := ⟨Nat.le_trans h.1 k.1, fun o v hv => k.2 o v (h.2 o v hv)⟩
theorem BKeep.refl (Bs : Nat) (X : World) : BKeep Bs X X := ⟨Nat.le_refl _, fun _ _ h => h⟩
theorem BKeep.of_below {Bs B : Nat} {X Y : World} (h : Below B X Y) (hb : Bs < B) : BKeep Bs X Y := ⟨h.size, fun o _ hv => (h.cell (p := ⟨Bs, o, none⟩) hb).trans hv⟩
theorem BKeep.of_kept {Bs : Nat} {X Y : World} (h : Kept X Y) : BKeep Bs X Y := ⟨h.size, fun _ _ hv => (h.cells _ _ (lt_of_cell hv)).trans hv⟩
theorem BKeep.setCell {Bs : Nat} {X : World} {p : Addr} (hne : Bs ≠ p.block) (u : Value) : BKeep Bs X (X.setCell p u) := ⟨by simp [World.setCell], fun o v hv => (World.cell?_setCell_other _ _ _ _ (fun e => hne (by rw [e]))).trans hv⟩
theorem BKeep.grown {Bs : Nat} {X Y : World} {row : Option Nat} (h : X.grownBy Y row) (hne : some Bs ≠ row) : BKeep Bs X Y := ⟨h.size, fun o _ hv => (h.cell_far ⟨Bs, o, none⟩ (lt_of_cell hv) hne).trans hv⟩
theorem BKeep.box {Bs : Nat} {X Y : World} {g : GrD} (h : BKeep Bs X Y) (hg : GBox X Bs g) : GBox Y Bs g := by
  obtain ⟨q0, q1, q2, q3, q4, q5, q6, q7, q8, q9, q10⟩ := hg
  exact ⟨h.2 _ _ q0, h.2 _ _ q1, h.2 _ _ q2, h.2 _ _ q3, h.2 _ _ q4, h.2 _ _ q5, h.2 _ _ q6, h.2 _ _ q7, h.2 _ _ q8, h.2 _ _ q9, h.2 _ _ q10⟩
theorem BKeep.putObj {Bs : Nat} (W : World) (l : Nat) (o o' : Obj) (hl : W.heap[l]? = some o) (ho : o.isCells = false) : BKeep Bs W (W.putObj l o') :=
  ⟨by simp, fun k v hv => (cell_kept hv (grownBy_putObj' W l o') (fun r e => by cases e; exact ⟨_, hl, ho⟩)).trans rfl⟩
end Go.Proofs.YtneakieigiafpaaGreatDoor

/- A range over an iterator that offers memory of its own: the contract tells what holds of an element where it is offered (R); the assign code may use it. -/
namespace Go.Proofs.YtneakieigiafpaaGreatDoor
open Go.RowKit
variable {F : Fence} {n : Nat} {P : Program} {w : World}

/-- The iterator's contract: what it offers meets R in the world where it is offered. -/
def SeqOffers {α : Type} (F : Fence) (n : Nat) (P : Program) (g : Nat) (lb : Array Value) (encs : α → Array Value) (Kp : World → World → Prop) (R : List α → α → World → Prop) (S Sp : List α → Prop) (N : Nat) (w : World) : Prop :=
  ∀ (l : Nat) (J Jx : List α → World → Prop) (W : World), Below w.heap.size w W → AbidesFrom W.heap.size J → AbidesFrom W.heap.size Jx →
    (∀ pre x W1, J pre W1 → R pre x W1 → pre.length < N → YieldAt F (n - 1) P l (encs x) W1 fun e W' =>
      (e = .returned (.bool true) ∧ J (pre ++ [x]) W' ∧ Kp W1 W') ∨ (e = .returned (.bool false) ∧ Jx (pre ++ [x]) W')) →
    J [] W →
    CallsIn F n P g (#[.func (.yield l) #[] #[]] ++ lb) W fun e W' => (∃ v, e = .returned v) ∧ ((∃ xs, S xs ∧ J xs W') ∨ (∃ pre, Sp pre ∧ Jx pre W'))

section
variable {α : Type} {fn : FuncId} {tmps : Array Value} {ps : Array Tmp} {assign body : Code}
/-- The loop's own record. -/
def recO (fn : FuncId) (tmps : Array Value) (ps : Array Tmp) (assign body : Code) (D : Nat) (st : LoopState) (pe : Option Code) : Loop := { state := st, pending := pe, fn, tmps, params := ps, assign, body, defers := D }
/-- What the law keeps beside the caller's invariant: its record, its block of deferred calls. -/
structure Books (W : World) (L D : Nat) (r : Loop) : Prop where
  loop : W.heap[L]? = some (.loop r)
  defs : W.heap[D]? = some (.deferred (some []))
theorem Books.grown {A B : World} {row : Option Nat} {L D : Nat} {r : Loop} (h : Books A L D r) (hg : A.grownBy B row) (hr : ∀ k, row = some k → ∃ o : Obj, A.heap[k]? = some o ∧ o.isWalk = true) : Books B L D r :=
  ⟨(grownBy_keeps hg hr h.loop rfl).trans h.loop, (grownBy_keeps hg hr h.defs rfl).trans h.defs⟩
theorem Books.keeps {A B : World} {n₀ L D : Nat} {r : Loop} (h : Books A L D r) (hk : KeepsFrom n₀ A B) (hL : n₀ ≤ L) (hD : n₀ ≤ D) : Books B L D r :=
  ⟨hk.same _ _ hL h.loop rfl, hk.same _ _ hD h.defs rfl⟩
theorem Books.lt {W : World} {L D : Nat} {r : Loop} (h : Books W L D r) : L < W.heap.size := (Array.getElem?_eq_some_iff.1 h.loop).1
theorem Books.put {W : World} {L D : Nat} {r : Loop} (h : Books W L D r) (hne : D ≠ L) (r' : Loop) : Books (W.putObj L (.loop r')) L D r' :=
  ⟨World.putObj_heap_same h.lt, (World.putObj_heap_other hne).trans h.defs⟩
end

/-- One round, out of the walks of the assign code and of the body. -/
theorem round_offered {α : Type} {fn : FuncId} {tmps : Array Value} {ps : Array Tmp} {assign body : Code} {n₀ L D : Nat} {Kp : World → World → Prop} {I : List α → World → Prop} {Ix : Code → List α → World → Prop} {Ax : α → Act → World → Prop}
    {pre : List α} {x : α} {args : Array Value} {W : World} (hfn : F.fn fn) (hL : n₀ ≤ L) (hD : n₀ ≤ D) (hne : D ≠ L)
    (hKt : ∀ {A B C : World}, Kp A B → Kp B C → Kp A C) (hKb : ∀ (W : World) (l : Nat) (o o' : Obj), n₀ ≤ l → W.heap[l]? = some o → o.isCells = false → o.isWalk = false → Kp W (W.putObj l o'))
    (hI : OwnFrom n₀ I) (hIx : ∀ c, OwnFrom n₀ (Ix c)) (hAx : ∀ x a', OwnFrom n₀ (fun (_ : Unit) W => Ax x a' W)) (hps : args.size = ps.size)
    (hb : Books W L D (recO fn tmps ps assign body D .ready none))
    (hassign : ∀ K : Act → World → Prop, (∀ a' W', KeepsFrom n₀ W W' → Kp W W' → I pre W' → Ax x a' W' → K a' W') →
      assign.wpIn (F.inRound L) n P (Exit.then K (fun _ _ _ => False)) { tmps := (ps.zip args).foldl (fun t (p, v) => t.setIfInBounds p v) tmps, defers := [] } W)
    (hbody : ∀ (a' : Act) (W : World), (∃ r, W.heap[L]? = some (.loop r)) → I pre W → Ax x a' W → body.wpIn (F.inRound L) n P (ownPostG n₀ Kp I Ix (pre ++ [x]) W) a' W) :
    YieldAt F n P L args W fun e W' =>
      (e = .returned (.bool true) ∧ (I (pre ++ [x]) W' ∧ Books W' L D (recO fn tmps ps assign body D .ready none)) ∧ Kp W W') ∨
      (e = .returned (.bool false) ∧ ∃ c, Ix c (pre ++ [x]) W' ∧ Books W' L D (recO fn tmps ps assign body D .done (some c))) := by
  have hy := run_yield (P := P) (args := args) hb.loop hps
  refine ⟨fn, _, assign, body, hy, roundIn_of_wpIn hfn (hassign _ fun a' Wa hkf hkp hia hax => ?_)⟩
  clear hy
  have hba := hb.keeps hkf hL hD
  refine ⟨_, run_beginRound hba.loop rfl, ?_⟩
  have hbb := hba.put hne { recO fn tmps ps assign body D .ready none with state := .busy }
  refine wpIn_mono (hbody a' _ ⟨_, hbb.loop⟩ (hI.putObj _ hia hL hba.loop rfl) ((hAx x a').putObj (s := ()) _ hax hL hba.loop rfl)) ?_
  -- what the round's end does to the record
  have fin : ∀ (jump : Option Code) (W3 : World), KeepsFrom n₀ (Wa.putObj L (.loop { recO fn tmps ps assign body D .ready none with state := .busy })) W3 →
      (Instr.endRound L jump).run P W3 = .ok (.bool jump.isNone) (W3.putObj L (.loop (recO fn tmps ps assign body D (if jump.isNone then .ready else .done) jump))) ∧
      W3.heap[L]? = some (.loop { recO fn tmps ps assign body D .ready none with state := .busy }) ∧
      Books (W3.putObj L (.loop (recO fn tmps ps assign body D (if jump.isNone then .ready else .done) jump))) L D (recO fn tmps ps assign body D (if jump.isNone then .ready else .done) jump) := fun jump W3 hk3 => by
    have hb3 := hbb.keeps hk3 hL hD
    exact ⟨run_endRound (P := P) jump hb3.loop, hb3.loop, hb3.put hne _⟩
  rintro e a3 W3 hp
  cases e with
  | normal =>
    obtain ⟨hk3, hkp3, hi3⟩ := hp
    obtain ⟨hr, hl3, hb3⟩ := fin none W3 hk3
    exact ⟨_, _, hr, .inl ⟨rfl, ⟨hI.putObj _ hi3 hL hl3 rfl, hb3⟩, hKt hkp (hKt (hKt (hKb _ _ _ _ hL hba.loop rfl rfl) hkp3) (hKb _ _ _ _ hL hl3 rfl rfl))⟩⟩
  | ret =>
    obtain ⟨hk3, hi3⟩ := hp
    obtain ⟨hr, hl3, hb3⟩ := fin (some .ret) W3 hk3
    exact ⟨_, _, hr, .inr ⟨rfl, .ret, (hIx _).putObj _ hi3 hL hl3 rfl, hb3⟩⟩
  | exit id =>
    obtain ⟨hk3, hi3⟩ := hp
    obtain ⟨hr, hl3, hb3⟩ := fin (some (.exit id)) W3 hk3
    exact ⟨_, _, hr, .inr ⟨rfl, .exit id, (hIx _).putObj _ hi3 hL hl3 rfl, hb3⟩⟩
  | goto t =>
    obtain ⟨hk3, hi3⟩ := hp
    obtain ⟨hr, hl3, hb3⟩ := fin (some (.goto t)) W3 hk3
    exact ⟨_, _, hr, .inr ⟨rfl, .goto t, (hIx _).putObj _ hi3 hL hl3 rfl, hb3⟩⟩
  | panic ch => exact hp.elim
  | outgrown => exact hp.elim

/-- A range over an iterator that offers: an outermost loop. -/
theorem wpIn_rangeOffers {α : Type} {g : Operand} {ps : Array Tmp} {assign body : Code} {Q : Exit → Act → World → Prop} {a : Act} {w : World}
    (hro : F.round = none) (h1 : 1 ≤ n) {gf : Nat} {lb : Array Value} (hg : a.eval g = .func (.func gf) #[] lb) (hFg : F.fn gf) (eg : ∀ args w, (callFunc gf args).run P w = .ok (.enter gf args) w)
    {encs : α → Array Value} {Kp : World → World → Prop} {R : List α → α → World → Prop} {S Sp : List α → Prop} {N : Nat} {w0 : World} (hseq : SeqOffers F (n - 1) P gf lb encs Kp R S Sp N w0)
    (hKt : ∀ {A B C : World}, Kp A B → Kp B C → Kp A C) (hKb : ∀ (W : World) (l : Nat) (o o' : Obj), w.heap.size ≤ l → W.heap[l]? = some o → o.isCells = false → o.isWalk = false → Kp W (W.putObj l o')) (hb0 : Below w0.heap.size w0 w) (hps : ∀ x, (encs x).size = ps.size)
    (I : List α → World → Prop) (Ix : Code → List α → World → Prop) (hI : OwnFrom w.heap.size I) (hIx : ∀ c, OwnFrom w.heap.size (Ix c)) (h0 : I [] w) (Ax : α → Act → World → Prop) (hAx : ∀ x a', OwnFrom w.heap.size (fun (_ : Unit) W => Ax x a' W))
    (hassign : ∀ (l : Nat) (pre : List α) (x : α) (W : World) (K : Act → World → Prop), I pre W → R pre x W → (∀ a' W', KeepsFrom w.heap.size W W' → Kp W W' → I pre W' → Ax x a' W' → K a' W') →
      assign.wpIn (F.inRound l) (n - 1 - 1) P (Exit.then K (fun _ _ _ => False)) { tmps := (ps.zip (encs x)).foldl (fun t (p, v) => t.setIfInBounds p v) a.tmps, defers := [] } W)
    (hbody : ∀ (l : Nat) (pre : List α) (x : α) (a' : Act) (W : World), w.heap.size ≤ l → (∃ r, W.heap[l]? = some (.loop r)) → I pre W → Ax x a' W → pre.length < N → body.wpIn (F.inRound l) (n - 1 - 1) P (ownPostG w.heap.size Kp I Ix (pre ++ [x]) W) a' W)
    (hdone : ∀ (D : Nat) (xs : List α) (W : World), w.heap.size ≤ D → S xs → I xs W → W.heap[D]? = some (.deferred (some [])) → Q .normal { a with defers := { target := .collected D, args := #[] } :: a.defers } W)
    (hstop : ∀ (D : Nat) (c : Code) (pre : List α) (W : World), w.heap.size ≤ D → Sp pre → Ix c pre W → W.heap[D]? = some (.deferred (some [])) → c.wpIn F n P Q { a with defers := { target := .collected D, args := #[] } :: a.defers } W) :
    (Code.rangeFunc g ps assign body).wpIn F n P Q a w := by
  refine wpIn_rangeFunc fun fn hfn => ?_
  rw [hro]
  obtain ⟨W1, hW1⟩ : ∃ W1, W1 = (w.alloc (.deferred (some []))).alloc (.loop (recO fn a.tmps ps assign body w.heap.size .ready none)) := ⟨_, rfl⟩
  have hsz : W1.heap.size = w.heap.size + 2 := by rw [hW1]; simp
  have hB1 : Books W1 (w.heap.size + 1) w.heap.size (recO fn a.tmps ps assign body w.heap.size .ready none) := by
    rw [hW1]
    have h9 := World.alloc_heap_new (w.alloc (.deferred (some []))) (.loop (recO fn a.tmps ps assign body w.heap.size .ready none))
    rw [World.size_alloc] at h9
    exact ⟨h9, (Below.heap_alloc _ _ _ (by simp)).trans (World.alloc_heap_new w _)⟩
  have hI1 : I [] W1 := by rw [hW1]; exact hI.alloc _ (hI.alloc _ h0)
  have hb1 : Below w0.heap.size w0 W1 := by
    rw [hW1]; exact hb0.trans ((((Below.refl _ w).alloc (Nat.le_refl _) _).alloc (by simp) _).mono hb0.size)
  refine ⟨w.heap.size + 1, [{ target := .collected w.heap.size, args := #[] }], W1, { target := .fn (.func gf) lb, args := #[.func (.yield (w.heap.size + 1)) #[] #[]] }, W1, gf,
    #[.func (.yield (w.heap.size + 1)) #[] #[]] ++ lb, W1, by rw [hW1]; exact run_enterLoop_outer _ _ _ _ _, by simp only [resolve, hg]; simp [go_sem], fun f' hf' => by simp [Target.leads] at hf'; subst hf'; exact hFg, by simp [invoke, go_sem, eg], fun _ => h1, ?_⟩
  have hnw : ∀ {A : World} {row : Option Nat}, (∀ r, row = some r → W1.heap.size ≤ r ∧ ∃ o : Obj, A.heap[r]? = some o ∧ o.isWalk = true) → (∀ r, row = some r → w.heap.size ≤ r ∧ ∃ o : Obj, A.heap[r]? = some o ∧ o.isCells = false) :=
    fun hr r e => by obtain ⟨hB, o, ho, hw⟩ := hr r e; exact ⟨by omega, o, ho, Obj.not_cells_of_walk hw⟩
  refine (hseq (w.heap.size + 1)
    (fun pre W => I pre W ∧ Books W (w.heap.size + 1) w.heap.size (recO fn a.tmps ps assign body w.heap.size .ready none))
    (fun pre W => ∃ c, Ix c pre W ∧ Books W (w.heap.size + 1) w.heap.size (recO fn a.tmps ps assign body w.heap.size .done (some c)))
    W1 hb1 (fun s A B row hs hg' hr => ⟨hI s A B row hs.1 hg' (hnw hr), hs.2.grown hg' (fun r e => (hr r e).2)⟩)
    (fun s A B row hs hg' hr => by obtain ⟨c, hc, hbk⟩ := hs; exact ⟨c, hIx c s A B row hc hg' (hnw hr), hbk.grown hg' (fun r e => (hr r e).2)⟩)
    (fun pre x W hj hR hlen => round_offered hfn (Nat.le_succ _) (Nat.le_refl _) (by omega) hKt hKb hI hIx hAx (hps x) hj.2 (fun K hK => hassign _ pre x W K hj.1 hR hK) (fun a' W' hl hi hax => hbody _ pre x a' W' (Nat.le_succ _) hl hi hax hlen))
    ⟨hI1, hB1⟩).mono ?_
  rintro e W2 ⟨⟨v, rfl⟩, (⟨xs, hS, hi, hb⟩ | ⟨pre, hSp, c, hi, hb⟩)⟩
  · exact ⟨none, _, run_endLoop (P := P) hb.loop (by simp [recO]), hdone _ xs _ (Nat.le_refl _) hS (hI.putObj _ hi (Nat.le_succ _) hb.loop rfl) ((World.putObj_heap_other (by omega)).trans hb.defs)⟩
  · exact ⟨some c, _, run_endLoop (P := P) hb.loop (by simp [recO]), hstop _ c pre _ (Nat.le_refl _) hSp ((hIx c).putObj _ hi (Nat.le_succ _) hb.loop rfl) ((World.putObj_heap_other (by omega)).trans hb.defs)⟩

/-- The append law (text Mem's run_append_row), inside a fence. -/
theorem wpListIn_append_row {F : Fence} {m₀ : Nat} {P : Program} (w : World) {ops : Array Oper} {rest : List Oper} {o : Oper} {a : Act} {Q : Exit → Act → World → Prop} (hgd : o.guard = none) (s x : Operand) (t : TypeId)
    (ho : o.op = .call { callee := .builtin .append, args := #[s, x], argTypes := #[t, t] })
    (base : Nat) (e : TypeId) (i : TypeInfo) (z : Value) (size bytes : Nat) (ht : P.underlying t = some (.slice e)) (hi : P.info? e = some i) (hz : i.zero = some z)
    (hsize : i.size = size) (hby : i.bytes = bytes) (hzs : z.cells.size = size) (hsz : 0 < size)
    (v : Value) (n : Nat) (xs : List Value) (hs : a.eval s = v) (hown : Own w base size v n xs)
    (A : Option Addr) (m c : Nat) (news : List Value) (hx : a.eval x = .slice A m c) (hl : news.length = m * size) (hr : Row w A news) (h1 : ∀ u ∈ news, u.oneCell' = true)
    (h63 : n + m ≤ maxLen) (hbytes : (n + m) * bytes ≤ 140737488355328) (hbase : base ≤ w.heap.size)
    (h : ∀ v' w', Own w' base size v' (n + m) (xs ++ news) → w.grownBy w' v.ownBlock → (v'.ownBlock = v.ownBlock ∨ ∀ k, v'.ownBlock = some k → w.heap.size ≤ k) → wpListIn F m₀ P ops Q rest (a.put o.dst v') w') : wpListIn F m₀ P ops Q (o :: rest) a w := by
  refine wpListIn_plain hgd fun K hK => ?_
  obtain ⟨v', w', hrun, h2, h3, h4⟩ := run_append_row (P := P) w base t o.type e i z size bytes ht hi hz hsize hby hzs hsz v n xs hown A m c news hl hr h1 h63 hbytes hbase
  unfold Oper.wpIn
  refine ⟨?_, ?_⟩
  · simp [Oper.about, ho, resolve, Target.leads, Sem.run_pure]
  · rw [Oper.semAt_plain F _ _ (by rw [ho]; intro c hc'; cases hc')]
    simp [execOp, ho, resolve, invoke, builtin, hs, hx, hrun, Result.andThen]
    exact hK _ _ (h v' w' h2 h3 h4)
end Go.Proofs.YtneakieigiafpaaGreatDoor

/- tile.Rects as an iterator that tells its rectangles in order. -/
namespace Go.Proofs.YtneakieigiafpaaGreatDoor
open Go.RowKit Go.Shelf

theorem rects_offersO (Kp : World → World → Prop) (n : Nat) (hn : 1 ≤ n) (Bs n₀ : Nat) (g : GrD) (hK1 : ∀ X Y, Kp X Y → GBox X Bs g → GBox Y Bs g) (hK2 : ∀ X Y, Kp X Y → X.heap.size ≤ Y.heap.size) (hg : g.ok) (w : World) (hb : Bs < n₀) (hn₀ : n₀ ≤ w.heap.size) (hB : GBox w Bs g) :
    SeqOffers Fence.wide n Tryz.prog 60 #[.pointer (some ⟨Bs, 0, none⟩)] (encR g) Kp (fun pre k _ => k = pre.length ∧ k < rectsN g) (fun ys => ys = List.range (rectsN g)) (fun pre => ∃ k, k ≤ rectsN g ∧ pre = List.range k) (rectsN g) w := fun l J Jx W hW hJ _ hY h0 =>
  rects1_inK Kp n hn l Bs n₀ g hK1 hK2 hg hb J Jx _ hJ (fun k W1 hk hj => hY (List.range k) k W1 hj ⟨by simp, hk⟩ (by simp; exact hk)) W (Nat.le_trans hn₀ hW.size) (hB.below (hW.mono hn₀) hb) h0
end Go.Proofs.YtneakieigiafpaaGreatDoor

/- Blocks of deferred calls that ranges over functions leave. -/
namespace Go.Proofs.YtneakieigiafpaaGreatDoor
open Go.RowKit Go.Shelf

/-- Blocks of deferred calls, each with none, each another, all at or beyond lo. -/
def Defs (lo : Nat) (W : World) : List Deferred → Prop
  | [] => True
  | d :: ds => ∃ D, d = { target := .collected D, args := #[] } ∧ lo ≤ D ∧ W.heap[D]? = some (.deferred (some [])) ∧ ({ target := .collected D, args := #[] } : Deferred) ∉ ds ∧ Defs lo W ds
theorem Defs.lt {lo : Nat} {W : World} : ∀ {ds : List Deferred} {D : Nat}, Defs lo W ds → ({ target := .collected D, args := #[] } : Deferred) ∈ ds → D < W.heap.size
  | _ :: _, D, ⟨D', he, _, hh, _, hd⟩, hm => by
    rcases List.mem_cons.1 hm with h | h
    · rw [he] at h; cases h; exact (Array.getElem?_eq_some_iff.1 hh).1
    · exact hd.lt h
theorem Defs.keeps {lo : Nat} {W W' : World} (hk : ∀ (k : Nat) (o : Obj), W.heap[k]? = some o → o.isCells = false → W'.heap[k]? = some o) : ∀ {ds : List Deferred}, Defs lo W ds → Defs lo W' ds
  | [], _ => trivial
  | _ :: _, ⟨D, he, hl, hh, hn, hd⟩ => ⟨D, he, hl, hk _ _ hh rfl, hn, hd.keeps hk⟩
theorem Defs.put {lo : Nat} {W : World} {D : Nat} {o : Obj} : ∀ {ds : List Deferred}, Defs lo W ds → ({ target := .collected D, args := #[] } : Deferred) ∉ ds → Defs lo (W.putObj D o) ds
  | [], _, _ => trivial
  | _ :: _, ⟨D', he, hl, hh, hn, hd⟩, hm => by
    subst he
    have hne : D' ≠ D := fun e => hm (by subst e; simp)
    exact ⟨D', rfl, hl, (World.putObj_heap_other hne).trans hh, hn, hd.put fun h => hm (List.mem_cons_of_mem _ h)⟩
/-- The blocks of deferred calls are shut, one behind the other. -/
theorem leaves_defs {F : Fence} {n : Nat} {P : Program} {fn : Func} {tmps : Array Value} {R : Ending → World → Prop} {lo : Nat} : ∀ (ds : List Deferred) (W : World), Defs lo W ds →
    (∀ W', Below lo W W' → (∀ b o, (∃ v, W.cell? ⟨b, o, none⟩ = some v) → W'.cell? ⟨b, o, none⟩ = W.cell? ⟨b, o, none⟩) → ∃ v, (results fn tmps).run P W' = .ok v W' ∧ R (.returned v) W') → lo ≤ W.heap.size →
    LeavesInM F n P fn tmps R ds .returning W
  | [], W, _, h, _ => h W (Below.refl _ _) (fun _ _ _ => rfl)
  | _ :: ds, W, ⟨D, he, hl, hh, hn, hd⟩, h, hlo => by
    subst he
    have hD : D < W.heap.size := (Array.getElem?_eq_some_iff.1 hh).1
    have hb : Below lo W (W.putObj D (.deferred none)) := (Below.refl lo W).grown (grownBy_putObj' W D _) hlo (fun k e => by cases e; exact hl)
    refine ⟨by simp, .inl ⟨D, _, rfl, run_takeDeferred hh, leaves_defs ds _ ?_ (fun W' hb' hc' => ?_) (by simpa using hlo)⟩⟩
    · exact hd.put hn
    · refine h W' (hb.trans hb') fun b o hv => ?_
      obtain ⟨v, hv⟩ := hv
      have h1 := cell_kept hv (grownBy_putObj' W D (.deferred none)) (fun r e => by cases e; exact ⟨_, hh, rfl⟩)
      rw [hc' b o ⟨v, h1⟩, h1, hv]
end Go.Proofs.YtneakieigiafpaaGreatDoor

/- A grid of a window, opened: eleven cells. (OpenG without the tile.) -/
namespace Go.Proofs.YtneakieigiafpaaGreatDoor
open Go.ChangeShapes Go.WideShapes Go.ChangeAt Go.WideMaps Go.WideElems Go.RowKit Go.Deep

section
variable {H : Type} {enc : TypeId × Value → H} {w : World} {base : Nat} {spare : Nat → Bool} {held : Bool}
theorem in64_of {n : Int} (h : (Lit.int IntKind.i64 n).wf = true) : in64 n := bounds_i64 h
set_option maxRecDepth 100000 in
theorem open_dyad {fuel : Nat} {cs : List Value} {x : DataW H × List MemPlace} (h : DataW.trod enc Tryz.prog w base spare held fuel 25 cs = some x) : ∃ d : DyD, d.ok ∧ cs = d.cells := by
  have hI : Tryz.prog.cellsOf 3 = 1 := by kernel_rfl
  have hS : Tryz.prog.cellsOf 23 = 1 := by kernel_rfl
  have hB : Tryz.prog.cellsOf 4 = 1 := by kernel_rfl
  have hC : Tryz.prog.cellsOf 25 = 3 := by kernel_rfl
  obtain ⟨xs, k, -, -, hl, hlen, hg⟩ := DataW.trod_struct Tryz.underlying25 h
  rw [hC] at hl
  match cs, hl with
  | [c0, c1, c2], _ =>
    obtain ⟨x0, q0⟩ : ∃ x0, xs[0]? = some x0 := ⟨_, List.getElem?_eq_getElem (by rw [hlen]; decide)⟩
    obtain ⟨x1, q1⟩ : ∃ x0, xs[1]? = some x0 := ⟨_, List.getElem?_eq_getElem (by rw [hlen]; decide)⟩
    obtain ⟨x2, q2⟩ : ∃ x0, xs[2]? = some x0 := ⟨_, List.getElem?_eq_getElem (by rw [hlen]; decide)⟩
    have g0 := (hg 0 _ rfl).trans q0
    have g1 := (hg 1 _ rfl).trans q1
    have g2 := (hg 2 _ rfl).trans q2
    simp only [List.getElem_toArray, List.getElem_cons_zero, List.getElem_cons_succ, hI, hS, hB, List.drop_zero, List.take_succ_cons, List.take_zero, List.drop_succ_cons] at g0 g1 g2
    obtain ⟨a0, e0, -⟩ := DataW.trod_bool Tryz.underlying4 g0
    obtain ⟨a1, e1, -, w1⟩ := DataW.trod_string Tryz.underlying23 g1
    obtain ⟨a2, e2, -, w2⟩ := DataW.trod_int Tryz.underlying3 g2
    injection e0 with e0; injection e1 with e1; injection e2 with e2
    subst e0 e1 e2
    exact ⟨⟨a0, a1, a2⟩, ⟨w1, (bounds_i64 w2).1, (bounds_i64 w2).2⟩, rfl⟩
set_option maxRecDepth 100000 in
theorem open_gauss {fuel : Nat} {cs : List Value} {x : DataW H × List MemPlace} (h : DataW.trod enc Tryz.prog w base spare held fuel 27 cs = some x) : ∃ p q : DyD, p.ok ∧ q.ok ∧ cs = p.cells ++ q.cells := by
  have hD : Tryz.prog.cellsOf 25 = 3 := by kernel_rfl
  have hC : Tryz.prog.cellsOf 27 = 6 := by kernel_rfl
  obtain ⟨y0, y1, n, -, hl, h0, h1⟩ := trod_struct2 Tryz.underlying27 h
  rw [hC] at hl
  simp only [hD] at h0 h1
  match cs, hl with
  | [c0, c1, c2, c3, c4, c5], _ =>
    simp only [List.drop_zero, List.take_succ_cons, List.take_zero, List.drop_succ_cons] at h0 h1
    obtain ⟨p, hp, ep⟩ := open_dyad h0
    obtain ⟨q, hq, eq⟩ := open_dyad h1
    refine ⟨p, q, hp, hq, ?_⟩
    rw [← ep, ← eq]; rfl
set_option maxRecDepth 100000 in
theorem open_window {fuel : Nat} {cs : List Value} {x : DataW H × List MemPlace} (h : DataW.trod enc Tryz.prog w base spare held fuel 29 cs = some x) : ∃ (p q : DyD) (e a d : Int), p.ok ∧ q.ok ∧ in64 e ∧ in64 a ∧ in64 d ∧ cs = p.cells ++ q.cells ++ [.int .i64 e, .int .i64 a, .int .i64 d] := by
  have hG : Tryz.prog.cellsOf 27 = 6 := by kernel_rfl
  have hI : Tryz.prog.cellsOf 3 = 1 := by kernel_rfl
  have hC : Tryz.prog.cellsOf 29 = 9 := by kernel_rfl
  obtain ⟨xs, k, -, -, hl, hlen, hg⟩ := DataW.trod_struct Tryz.underlying29 h
  rw [hC] at hl
  match cs, hl with
  | [c0, c1, c2, c3, c4, c5, c6, c7, c8], _ =>
    obtain ⟨x0, q0⟩ : ∃ x0, xs[0]? = some x0 := ⟨_, List.getElem?_eq_getElem (by rw [hlen]; decide)⟩
    obtain ⟨x1, q1⟩ : ∃ x0, xs[1]? = some x0 := ⟨_, List.getElem?_eq_getElem (by rw [hlen]; decide)⟩
    obtain ⟨x2, q2⟩ : ∃ x0, xs[2]? = some x0 := ⟨_, List.getElem?_eq_getElem (by rw [hlen]; decide)⟩
    obtain ⟨x3, q3⟩ : ∃ x0, xs[3]? = some x0 := ⟨_, List.getElem?_eq_getElem (by rw [hlen]; decide)⟩
    have g0 := (hg 0 _ rfl).trans q0
    have g1 := (hg 1 _ rfl).trans q1
    have g2 := (hg 2 _ rfl).trans q2
    have g3 := (hg 3 _ rfl).trans q3
    simp only [List.getElem_toArray, List.getElem_cons_zero, List.getElem_cons_succ, hI, hG, List.drop_zero, List.take_succ_cons, List.take_zero, List.drop_succ_cons] at g0 g1 g2 g3
    obtain ⟨p, q, hp, hq, e0⟩ := open_gauss g0
    obtain ⟨a1, e1, -, w1⟩ := DataW.trod_int Tryz.underlying3 g1
    obtain ⟨a2, e2, -, w2⟩ := DataW.trod_int Tryz.underlying3 g2
    obtain ⟨a3, e3, -, w3⟩ := DataW.trod_int Tryz.underlying3 g3
    injection e1 with e1; injection e2 with e2; injection e3 with e3
    subst e1 e2 e3
    refine ⟨p, q, a1, a2, a3, hp, hq, in64_of w1, in64_of w2, in64_of w3, ?_⟩
    rw [← e0]; rfl
set_option maxRecDepth 100000 in
theorem open_grid {r : Reach} {b0 : Nat} {v : Value} {d : DataW H} {p : List MemPlace}
    (hv : Value.okWide Tryz.prog w r b0 31 v) (h : DataW.Trod enc Tryz.prog w base spare held 31 v d p) :
    ∃ g : GrD, g.ok ∧ v = .agg #[.bool g.re.neg, .string g.re.n, .int .i64 g.re.e, .bool g.im.neg, .string g.im.n, .int .i64 g.im.e, .int .i64 g.exp, .int .i64 g.across, .int .i64 g.down, .int .i64 g.wide, .int .i64 g.high] := by
  obtain ⟨cs, rfl, hsz⟩ := okWide_struct Tryz.underlying31 hv
  have hC : Tryz.prog.cellsOf 31 = 11 := by kernel_rfl
  have hW : Tryz.prog.cellsOf 29 = 9 := by kernel_rfl
  have hI : Tryz.prog.cellsOf 3 = 1 := by kernel_rfl
  obtain ⟨l⟩ := cs
  match l, hsz.trans hC with
  | [c0, c1, c2, c3, c4, c5, c6, c7, c8, c9, c10], _ =>
    obtain ⟨fuel, hf⟩ := h
    obtain ⟨xs, k, -, -, hl, hlen, hg⟩ := DataW.trod_struct Tryz.underlying31 hf
    obtain ⟨x0, q0⟩ : ∃ x0, xs[0]? = some x0 := ⟨_, List.getElem?_eq_getElem (by rw [hlen]; decide)⟩
    obtain ⟨x1, q1⟩ : ∃ x0, xs[1]? = some x0 := ⟨_, List.getElem?_eq_getElem (by rw [hlen]; decide)⟩
    obtain ⟨x2, q2⟩ : ∃ x0, xs[2]? = some x0 := ⟨_, List.getElem?_eq_getElem (by rw [hlen]; decide)⟩
    have g0 := (hg 0 _ rfl).trans q0
    have g1 := (hg 1 _ rfl).trans q1
    have g2 := (hg 2 _ rfl).trans q2
    simp only [List.getElem_toArray, List.getElem_cons_zero, List.getElem_cons_succ, Value.cells, hI, hW, List.drop_zero, List.take_succ_cons, List.take_zero, List.drop_succ_cons] at g0 g1 g2
    obtain ⟨p, q, e, a, d, hp, hq, he, ha, hd, e0⟩ := open_window g0
    obtain ⟨a1, e1, -, w1⟩ := DataW.trod_int Tryz.underlying3 g1
    obtain ⟨a2, e2, -, w2⟩ := DataW.trod_int Tryz.underlying3 g2
    injection e1 with e1; injection e2 with e2
    subst e1 e2
    simp only [DyD.cells, List.cons_append, List.nil_append, List.cons.injEq, and_true] at e0
    obtain ⟨rfl, rfl, rfl, rfl, rfl, rfl, rfl, rfl, rfl⟩ := e0
    exact ⟨⟨p, q, e, a, d, a1, a2⟩, ⟨hp, hq, he, ha, hd, in64_of w1, in64_of w2⟩, rfl⟩
end
end Go.Proofs.YtneakieigiafpaaGreatDoor
