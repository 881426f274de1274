/- picture.Rows and its two closures. -/
import Derived.Test.YtbhgcbgaadnfpaaRangeO
import Derived.Test.YtbhgcbgaadnfpaaPutsA
import Derived.RangeFuncCalls
import Derived.RangeFuncLeaves
import Derived.Shelf.Abstract
import Derived.Shelf.RegionOpen
import Derived.WalkKit
import Derived.TacticsInMore
import Derived.LoopNIn
import Derived.LoopIn
namespace Go.Proofs.Ytbhgcbgaadnfpaa
open Go.RowKit Go.Shelf

set_option maxRecDepth 100000 in
set_option maxHeartbeats 400000 in
theorem rowsit_bad (a d : Int) (A : Option Addr) (n c : Nat) (w : World) (ha : -9223372036854775808 ≤ a) (ha' : a ≤ 9223372036854775807) (hd : -9223372036854775808 ≤ d) (hd' : d ≤ 9223372036854775807) (hn : n ≤ 9223372036854775807) (hm : mayB a d n = false) :
    Calls Try.prog 28 #[.agg #[.int .i64 a, .int .i64 d, .slice A n c]] w fun e w' => e = .returned (.func (.func 52) #[] #[]) ∧ Kept w w' := by
  have CK : Hid (∀ W, Calls Try.prog 20 #[.agg #[.int .i64 a, .int .i64 d, .slice A n c]] W fun e w' => e = .returned (.int .i64 290) ∧ Kept W w') := fun W => by
    have := check_any a d A n c W ha ha' hd hd' hn
    rwa [show checkI a d n = 290 by simp [checkI, hm]] at this
  clear ha ha' hd hd' hn hm
  go_enter Try.func28, Try.ntmps28
  go_wp2_with (go_at_call 20; refine (CK.out _).mono ?_; rintro e w1 ⟨rfl, hk1⟩)
  go_ret
  exact ⟨rfl, ((Below.refl _ _).alloc (Nat.le_refl _) _).trans (hk1.mono (by simp))⟩

set_option maxRecDepth 100000 in
set_option maxHeartbeats 800000 in
theorem rowsit_good (a d : Int) (A : Option Addr) (n c : Nat) (g : List UInt8) (w : World) (hm : mayB a d n = true) (_ : n ≤ c) (hl : g.length = n) (hr : Row w A (bytesV g)) :
    Calls Try.prog 28 #[.agg #[.int .i64 a, .int .i64 d, .slice A n c]] w fun e w' => ∃ (B : Nat) (A' : Option Addr) (c' : Nat), e = .returned (.func (.func 53) #[] #[.pointer (some ⟨B, 0, none⟩)]) ∧
      Kept w w' ∧ w.heap.size ≤ B ∧ PBox w' B (.int .i64 a) (.int .i64 d) (.slice A' n c') ∧ Own w' w.heap.size 1 (.slice A' n c') n (bytesV g) := by
  obtain ⟨i0, hi, hi0, hi1, hi2⟩ := info_parts info_u8
  obtain ⟨y1, y2, y3, y4, y5, y6, y7⟩ := mayB_bounds hm
  have CK : Hid (∀ W, Calls Try.prog 20 #[.agg #[.int .i64 a, .int .i64 d, .slice A n c]] W fun e w' => e = .returned (.int .i64 0) ∧ Kept W w') := fun W => by
    have := check_any a d A n c W (by omega) (by omega) (by omega) (by omega) (by omega)
    rwa [show checkI a d n = 0 by simp [checkI, hm]] at this
  have HR := hide hr
  have HL := hide hl
  clear hm hr hl y5
  go_enter Try.func28, Try.ntmps28
  go_wp2_with fail
  refine (CK.out _).mono ?_
  rintro e w1 ⟨rfl, hk1⟩
  have P1 : Box w1 w.heap.size (.int .i64 a) (.int .i64 d) (.slice A n c) := (Box.new w _ _ _ 24 _ rfl).kept hk1
  have K1 := hide ((((Below.refl _ w).alloc (Nat.le_refl _) (.cells #[.int .i64 a, .int .i64 d, .slice A n c] 24))).trans (hk1.mono (by simp)))
  have lt1 := lt_of_cell P1.1
  obtain ⟨X, hX⟩ : ∃ X, X = w1.alloc (.cells #[.int .i64 a, .int .i64 d, .slice A n c] 24) := ⟨_, rfl⟩
  have hkX : Kept w1 X := by rw [hX]; exact (Below.refl _ _).alloc (Nat.le_refl _) _
  have szX : X.heap.size = w1.heap.size + 1 := by rw [hX]; simp
  have PB : Hid (PBox X w1.heap.size (.int .i64 a) (.int .i64 d) (.slice A n c)) := by rw [hX]; exact PBox.new _ _ _ _ _ _ rfl
  have K2 : Hid (Kept w X) := K1.out.trans (hkX.mono K1.out.size)
  have PX := P1.kept hkX
  have hRX := hide (HR.out.kept K2.out)
  obtain ⟨p0, p1, p2⟩ := P1
  go_upto_region 4 with fail
  rw [← hX]
  obtain ⟨q0, q1, q2, q3, q4, q5⟩ := PB.out
  clear hX hkX hk1 p0 p1 p2
  obtain ⟨p0, p1, p2⟩ := PX
  go_wp2_with (at_builtin; refine wpList_append_row _ rfl _ _ 22 rfl (w1.heap.size + 1) 5 i0 (.int .u8 0) 1 1 Try.underlying22 hi hi0 hi1 hi2 rfl (by decide) (.slice none 0 0) 0 [] rfl (Own.nil _ _ _) A n c (bytesV g) rfl (by rw [bytesV_length, HL.out, Nat.mul_one]) hRX.out (bytesV_one _) (by unfold maxLen; omega) (by omega) (by omega) ?_)
  intro v2 w2 hown2 hg2 hat2
  have hk2 : Kept X w2 := (Below.refl _ _).grown hg2 (Nat.le_refl _) (fun k hk => by simp [Value.ownBlock] at hk)
  obtain ⟨A2, c2, rfl, -, -, -, -⟩ := hown2.form
  have PB2 := hide (PB.out.kept hk2)
  have K3 : Hid (Kept w w2) := K2.out.trans (hk2.mono K2.out.size)
  have HO2 := hide hown2
  have lt2 := hk2.size
  clear q0 q1 q2 q3 q4 q5 hown2 hg2 hat2 hk2 p0 p1 p2
  obtain ⟨q0, q1, q2, q3, q4, q5⟩ := PB2.out
  go_wp2_with fail
  go_ret
  refine ⟨w1.heap.size, A2, c2, rfl, K3.out.setCell (by show w.heap.size ≤ w1.heap.size; omega) _, by omega, ⟨?_, ?_, ?_, ?_, ?_, ?_⟩, ?_⟩
  · rw [World.cell?_setCell_other _ _ _ _ (by simp)]; exact q0
  · rw [World.cell?_setCell_other _ _ _ _ (by simp)]; exact q1
  · rw [World.cell?_setCell_same _ _ _ q2]
  · rw [World.frozen?_setCell]; exact q3
  · rw [World.frozen?_setCell]; exact q4
  · rw [World.frozen?_setCell]; exact q5
  · exact (HO2.out.far (p := ⟨w1.heap.size, 2, none⟩) (fun k hk => by have := (HO2.out.lt k hk).1; simp; omega) _).less (by omega)

/-- What is told in a round: the row's number, a slice. -/
def encO (a : Nat) (x : Nat × Option Addr × Nat) : Array Value := #[.int .i64 (x.1 : Int), .slice x.2.1 a x.2.2]
theorem rows1_offers {α : Type} (n N : Nat) (encs : α → Array Value) (Kp : World → World → Prop) (R : List α → α → World → Prop) (w : World) :
    SeqOffers Fence.wide n Try.prog 52 #[] encs Kp R (fun xs => xs = []) (fun _ => False) N w := by
  intro l J Jx W hW hJ hJx hY h0
  refine callsIn_of_wp Try.func52 rfl trivial ?_ rfl
  simp only [Try.ntmps52, List.size_toArray, List.length_cons, List.length_nil, Nat.reduceAdd, Nat.reduceSub, Array.replicate_succ, Array.replicate_zero, List.push_toArray, List.append_toArray, List.nil_append, List.cons_append]
  gi_wp2
  go_end0
  exact ⟨⟨_, rfl⟩, .inl ⟨[], rfl, h0⟩⟩

/-- A row in memory of its own. -/
def Offer (b₀ a : Nat) (g : List UInt8) (pre : List (Nat × Option Addr × Nat)) (x : Nat × Option Addr × Nat) (W : World) : Prop :=
  x.1 = pre.length ∧ Own W b₀ 1 (.slice x.2.1 a x.2.2) a (bytesV (rowOf a g x.1))
set_option maxRecDepth 100000 in
set_option maxHeartbeats 2000000 in
theorem rows2_offers (m : Nat) (hm1 : 1 ≤ m) (a d : Int) (A : Option Addr) (n c : Nat) (g : List UInt8) (B n₀ : Nat) (w : World) (hm : mayB a d n = true) (hl : g.length = n) (hn₀ : n₀ ≤ w.heap.size) (hB : B < n₀)
    (hb : PBox w B (.int .i64 a) (.int .i64 d) (.slice A n c)) (base : Nat) (ho : Own w base 1 (.slice A n c) n (bytesV g)) (hA : ∀ k, (Value.slice A n c).ownBlock = some k → k < n₀) (b₀ : Nat) (hb₀ : b₀ ≤ w.heap.size) :
    SeqOffers Fence.wide m Try.prog 53 #[.pointer (some ⟨B, 0, none⟩)] (encO a.toNat) (Below n₀) (Offer b₀ a.toNat g) (fun xs => xs.length = d.toNat) (fun pre => pre.length ≤ d.toNat) d.toNat w := by
  intro l J Jx W hW hJ hJx hY h0
  obtain ⟨i0, hi, hi0, hi1, hi2⟩ := info_parts info_u8
  obtain ⟨y1, y2, y3, y4, y5, y6, y7⟩ := mayB_bounds hm
  obtain ⟨A9, c9, hv9, hnc, hcm, -, -, -⟩ := ho.form
  injection hv9 with e1 _ e2
  subst e1; subst e2
  have CR : Hid (∀ (X : World) (k : Nat), k < d.toNat → Calls Try.prog 46 #[.agg #[.int .i64 a, .int .i64 d, .slice A n c], .int .i64 k] X fun e w' => (∃ A', e = .returned (.slice A' a.toNat a.toNat) ∧ ∀ (W : World) (g : List Value), Row W A g → Row W A' ((g.drop (k * a.toNat)).take a.toNat)) ∧ Kept X w') := fun X k hk => row_any a d A n c k X hm (by omega) (by omega) hnc
  have FX : Hid (∀ X, Below n₀ w X → PBox X B (.int .i64 a) (.int .i64 d) (.slice A n c) ∧ Row X A (bytesV g)) := fun X hX =>
    ⟨⟨(hX.cell (p := ⟨B, 0, none⟩) hB).trans hb.c0, (hX.cell (p := ⟨B, 1, none⟩) hB).trans hb.c1, (hX.cell (p := ⟨B, 2, none⟩) hB).trans hb.c2, (hX.frozen (p := ⟨B, 0, none⟩) hB).trans hb.f0, (hX.frozen (p := ⟨B, 1, none⟩) hB).trans hb.f1, (hX.frozen (p := ⟨B, 2, none⟩) hB).trans hb.f2⟩,
      (ho.keep hX.size fun k hk o => ⟨hX.cell (p := ⟨k, o, none⟩) (hA k hk), hX.frozen (p := ⟨k, o, none⟩) (hA k hk)⟩).row⟩
  have HRL : Hid (∀ k, k < d.toNat → (rowOf a.toNat g k).length = a.toNat) := fun k hk => rowOf_length a.toNat g k d.toNat (by
    have e : ((a.toNat * d.toNat : Nat) : Int) = a * d := by rw [Int.natCast_mul, Int.toNat_of_nonneg (by omega), Int.toNat_of_nonneg (by omega)]
    omega) hk
  obtain ⟨N, hN⟩ : ∃ N, N = d.toNat := ⟨_, rfl⟩
  have hNd : (N : Int) = d := by omega
  obtain ⟨an, han⟩ : ∃ an, an = a.toNat := ⟨_, rfl⟩
  have han1 : an ≤ 4194304 := by omega
  rw [← hN] at CR HRL hY ⊢
  rw [← han] at CR HRL hY
  have HW : Hid (Below n₀ w W) := hW.mono hn₀
  have hn0 : n₀ ≤ W.heap.size := Nat.le_trans hn₀ hW.size
  obtain ⟨q0, q1, q2, q3, q4, q5⟩ := (FX.out W HW.out).1
  have HBB : Hid (B < n₀) := hB
  clear ho hA hb hm hl hW y5 hN han hcm
  refine callsIn_of_wp Try.func53 rfl trivial ?_ rfl
  simp only [Try.ntmps53, List.size_toArray, List.length_cons, List.length_nil, Nat.reduceAdd, Nat.reduceSub, Array.replicate_succ, Array.replicate_zero, List.push_toArray, List.append_toArray, List.nil_append, List.cons_append]
  gi_wp2
  clear q0 q1 q2 q3 q4 q5
  gi_loopw [6] (fun i wr => ∃ (k : Nat) (pre : List (Nat × Option Addr × Nat)), k ≤ N ∧ pre.length = k ∧ i = .int .i64 k ∧ J pre wr ∧ Below n₀ w wr ∧ n₀ ≤ wr.heap.size) (fun i _ => N - (intOf i).toNat)
  case atStart => exact ⟨0, [], Nat.zero_le _, rfl, rfl, h0, HW.out, hn0⟩
  case round =>
    obtain ⟨k, pre, hk, hpl, rfl, hJs, hbw, hnw⟩ := hrel
    have HBW := hide hbw
    have HPL := hide hpl
    clear hpl hbw
    by_cases hlt : k < N
    · have hlI : (k : Int) < d := by omega
      obtain ⟨q0, q1, q2, q3, q4, q5⟩ := (FX.out wr HBW.out).1
      have hrl := HRL.out k hlt
      have HRK := hide hrl
      clear hrl
      gi_wp2_with fail
      refine ⟨trivial, (callsIn_wide.2 (CR.out _ k hlt)).mono ?_⟩
      rintro e w2 ⟨⟨A2, rfl, hrow2⟩, hk2⟩
      have HR2 : Hid (Row w2 A2 (bytesV (rowOf an g k))) := by
        have h8 := hrow2 w2 _ ((FX.out w2 (HBW.out.trans (hk2.mono hnw))).2)
        rw [bytesV_drop, bytesV_take] at h8
        exact h8
      have HK2 := hide hk2
      clear hrow2 q0 q1 q2 q3 q4 q5 hk2
      gi_wp2_with (refine wpListIn_append_row _ rfl _ _ 22 rfl w2.heap.size 5 i0 (.int .u8 0) 1 1 Try.underlying22 hi hi0 hi1 hi2 rfl (by decide) (.slice none 0 0) 0 [] rfl (Own.nil _ _ _) A2 an an (bytesV (rowOf an g k)) rfl (by rw [bytesV_length, HRK.out, Nat.mul_one]) HR2.out (bytesV_one _) (by unfold maxLen; omega) (by omega) (Nat.le_refl _) ?_)
      intro v3 w3 hown3 hg3 _
      obtain ⟨A3, c3, rfl, -, -, -, -⟩ := hown3.form
      have hg3 : w2.grownBy w3 none := hg3
      have hJ2 := hJ pre wr w2 none hJs ⟨HK2.out.os, HK2.out.tape, HK2.out.output, HK2.out.size, fun j hj _ => HK2.out.block j hj⟩ (by simp)
      have hJ3 := hJ pre w2 w3 none hJ2 hg3 (by simp)
      have hs2 := HK2.out.size
      obtain ⟨fn, tmps, assign, body, hy, hR⟩ := hY pre (k, A3, c3) w3 hJ3 ⟨HPL.out.symm, hown3.less (by have := HBW.out.size; omega)⟩ (by have := HPL.out; omega)
      have hb3 : Below n₀ w w3 := (HBW.out.trans (HK2.out.mono hnw)).trans (((Below.refl _ w2).grown hg3 (Nat.le_refl _) (fun k hk => by cases hk)).mono (by omega))
      have HB3 := hide hb3
      have hn3 : n₀ ≤ w3.heap.size := by have := hg3.size; omega
      dsimp only [encO] at hy
      clear hown3 hg3 hJ2 hJ3 hs2 hb3
      gi_wp2
      refine hR.mono ?_
      rintro e W3 (⟨rfl, hJ4, hk4⟩ | ⟨rfl, hJx4⟩)
      · have HJ4 := hide hJ4
        have HB4 := hide (HB3.out.trans hk4)
        have hn4 : n₀ ≤ W3.heap.size := Nat.le_trans hn3 hk4.size
        clear hk4 hJ4
        gi_wp2
        go_roundw
        case rel => exact ⟨k + 1, pre ++ [(k, A3, c3)], by omega, by simp [HPL.out], by simp, HJ4.out, HB4.out, hn4⟩
        case measure => simp [intOf]; omega
      · have HX4 := hide hJx4
        gi_wp2
        refine bodyPost_ret (results_none rfl _ _ _) rfl ?_
        exact ⟨⟨_, rfl⟩, .inr ⟨_, by simp [HPL.out]; omega, HX4.out⟩⟩
    · have hge : ¬ (k : Int) < d := by omega
      gi_wp2
      go_end0
      exact ⟨⟨_, rfl⟩, .inl ⟨pre, by have := HPL.out; omega, hJs⟩⟩
end Go.Proofs.Ytbhgcbgaadnfpaa
