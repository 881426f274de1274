/- The document's words on windows and grids (filigreeref03.May, 06.May, 24.side, 24.May, 25.parts, within, Check, Count, Rect, At), walked. -/
import Derived.Test.YtneakieigiafpaaGreatDoorTilX
import Derived.Test.YtneakieigiafpaaGreatDoorRects
import Derived.Test.YtneakieigiafpaaGreatDoorQuietT
import Derived.Lib.Strings
import Derived.Deep.QuietTactic
import Derived.BigQuiet
namespace Go.Proofs.YtneakieigiafpaaGreatDoor
open Go.RowKit

set_option maxRecDepth 100000 in
set_option maxHeartbeats 1600000 in
theorem refDMay_any (d : DyD) (w : World) (hd : d.ok) : Calls Tryz.prog 176 #[.agg #[.bool d.neg, .string d.n, .int .i64 d.e]] w fun e w' => e = .returned (.bool (dyadB d)) ∧ Kept w w' := by
  obtain ⟨neg, s, x⟩ := d
  obtain ⟨hs, hx0, hx1⟩ := hd
  simp only at hs hx0 hx1 ⊢
  by_cases h0 : s.size = 0
  · have hE := empty_of_size s h0
    subst hE
    by_cases hx : x = 0
    · subst hx
      cases neg with
      | false =>
        go_enter Tryz.func176, Tryz.ntmps176
        go_wp2
        go_ret
        exact ⟨rfl, (Below.refl _ _).alloc (Nat.le_refl _) _⟩
      | true =>
        go_enter Tryz.func176, Tryz.ntmps176
        go_wp2
        go_ret
        exact ⟨rfl, (Below.refl _ _).alloc (Nat.le_refl _) _⟩
    · have HX := hide hx
      go_enter Tryz.func176, Tryz.ntmps176
      go_wp2
      go_ret
      exact ⟨bool_ret (by simp [dyadB, HX.out]), (Below.refl _ _).alloc (Nat.le_refl _) _⟩
  · have hp : 0 < s.size := by omega
    have hd0 : s.data.toList ≠ [] := by
      intro h; exact h0 (by rw [← ByteArray.size_data, ← Array.length_toList, h]; rfl)
    have hz : s.toList = [] ↔ False := by
      rw [Lib.toList_data]
      exact ⟨fun h => hd0 h, False.elim⟩
    have hz1 : s.toList.isEmpty = false := by
      cases h : s.toList with
      | nil => exact (hz.1 h).elim
      | cons x l => rfl
    have hne : s ≠ ⟨#[]⟩ := fun h => h0 (by rw [h]; rfl)
    have hpI : (0 : Int) < s.size := by omega
    have k1 : (0 : Int) ≤ (s.size : Int) - 1 := by omega
    have k2 : (s.size : Int) - 1 < s.size := by omega
    have k3 : ((s.size : Int) - 1).toNat = s.size - 1 := by omega
    have k4 : IntKind.i64.wrap ((s.size : Int) - 1) = (s.size : Int) - 1 := IntWalk.i64_in _ (by unfold maxLen at hs; omega)
    have k5 : s.size - 1 < s.size := by omega
    have HD : Hid (dyadB ⟨neg, s, x⟩ = ((decide (s.size ≤ 16384) && !(s[0] == 0)) && (!decide ((s[s.size - 1]'k5).toNat % 2 = 0) && (decide (-1048576 ≤ x) && decide (x ≤ 1048576))))) := by
      show _ = _
      simp [dyadB, hd0, last_data s hp, natB, head_data s hp]
    obtain ⟨y, hy⟩ : ∃ y, s[s.size - 1]'k5 = y := ⟨_, rfl⟩
    obtain ⟨z, hz0⟩ : ∃ y, s[0] = y := ⟨_, rfl⟩
    rw [hy, hz0] at HD
    by_cases c1 : s.size ≤ 16384
    · have c1I : (s.size : Int) ≤ 16384 := by omega
      by_cases c2 : z = 0
      · subst c2
        go_enter Tryz.func176, Tryz.ntmps176
        go_wp2
        go_ret
        exact ⟨bool_ret (by rw [HD.out]; simp), (Below.refl _ _).alloc (Nat.le_refl _) _⟩
      · have c2I : ((z.toNat : Int) == 0) = false := by
          rw [beq_eq_false_iff_ne]; intro h
          exact c2 (UInt8.toNat_inj.1 (by simpa using h))
        have hm := Nat.mod_two_eq_zero_or_one y.toNat
        have HM := hide hm
        clear hm
        go_enter Tryz.func176, Tryz.ntmps176
        go_wp2
        all_goals
          go_ret
          refine ⟨bool_ret ?_, (Below.refl _ _).alloc (Nat.le_refl _) _⟩
          rw [HD.out]
          have e1 : ((z.toNat : Int) != 0) = true := by simp only [bne, c2I]; rfl
          have e2 : (z == 0) = false := by simpa using c2
          have e3 : z.toNat ≠ 0 := fun h => c2 (UInt8.toNat_inj.1 (by simpa using h))
          rcases HM.out with hm | hm
          · first | (simp [c1, e1, e2, hm]; done) | (exfalso; omega)
          · first | (exfalso; omega) | (simp [c1, e1, e2, hm]; done) | (simp [c1, e1, e2, hm]; omega)
    · have c1I : ¬ (s.size : Int) ≤ 16384 := by omega
      go_enter Tryz.func176, Tryz.ntmps176
      go_wp2
      go_ret
      exact ⟨bool_ret (by rw [HD.out]; simp [c1]), (Below.refl _ _).alloc (Nat.le_refl _) _⟩
set_option maxRecDepth 100000 in
set_option maxHeartbeats 1600000 in
theorem refGMay_any (p q : DyD) (w : World) (hp : p.ok) (hq : q.ok) : Calls Tryz.prog 117 #[.agg #[.bool p.neg, .string p.n, .int .i64 p.e, .bool q.neg, .string q.n, .int .i64 q.e]] w fun e w' => e = .returned (.bool (dyadB p && dyadB q)) ∧ Kept w w' := by
  have C1 := hide (fun (W : World) => refDMay_any p W hp)
  have C2 := hide (fun (W : World) => refDMay_any q W hq)
  generalize dyadB p = P at *
  generalize dyadB q = Q at *
  clear hp hq
  go_enter Tryz.func117, Tryz.ntmps117
  go_wp2_with fail
  refine (C1.out _).mono ?_
  rintro e w1 ⟨rfl, hk1⟩
  have c3 := (hk1.cells w.heap.size 3 (by simp))
  have c4 := (hk1.cells w.heap.size 4 (by simp))
  have c5 := (hk1.cells w.heap.size 5 (by simp))
  simp at c3 c4 c5
  have hz5 := lt_of_cell c3
  have K1 := hide (((Below.refl _ w).alloc (Nat.le_refl _) (.cells #[.bool p.neg, .string p.n, .int .i64 p.e, .bool q.neg, .string q.n, .int .i64 q.e] 27)).trans (hk1.mono (by simp)))
  clear hk1
  cases P with
  | false =>
    go_wp2_with fail
    go_ret
    exact ⟨rfl, K1.out⟩
  | true =>
    go_wp2_with fail
    refine (C2.out _).mono ?_
    rintro e w2 ⟨rfl, hk2⟩
    have K2 := hide ((show Kept w w1 from K1.out).trans' hk2)
    clear hk2
    go_wp2_with fail
    go_ret
    exact ⟨bool_ret (Bool.true_and _).symm, K2.out⟩
set_option maxHeartbeats 400000 in
theorem refSide_any (n : Int) (w : World) : Calls Tryz.prog 118 #[.int .i64 n] w fun e w' => e = .returned (.bool (decide (-4096 ≤ n ∧ n ≤ 4096))) ∧ w = w' := by
  by_cases h1 : -4096 ≤ n
  · go_enter Tryz.func118, Tryz.ntmps118
    go_wp2
    go_ret
    exact ⟨by simp [h1], rfl⟩
  · go_enter Tryz.func118, Tryz.ntmps118
    go_wp2
    go_ret
    exact ⟨by simp; omega, rfl⟩
set_option maxRecDepth 100000 in
set_option maxHeartbeats 1600000 in
theorem refWMay_any (g : GrD) (w : World) (hg : g.ok) : Calls Tryz.prog 54 #[.agg #[.bool g.re.neg, .string g.re.n, .int .i64 g.re.e, .bool g.im.neg, .string g.im.n, .int .i64 g.im.e, .int .i64 g.exp, .int .i64 g.across, .int .i64 g.down]] w fun e w' => e = .returned (.bool (viewB g)) ∧ Kept w w' := by
  have CG := hide (fun (W : World) => refGMay_any g.re g.im W hg.re hg.im)
  have CS := hide (fun (W : World) => refSide_any g.exp W)
  have HV : Hid (viewB g = ((dyadB g.re && dyadB g.im) && (decide (-4096 ≤ g.exp ∧ g.exp ≤ 4096) && (decide (1 ≤ g.across ∧ g.across ≤ 65536) && decide (1 ≤ g.down ∧ g.down ≤ 65536))))) := rfl
  generalize (dyadB g.re && dyadB g.im) = G at *
  generalize hS : decide (-4096 ≤ g.exp ∧ g.exp ≤ 4096) = S at *
  obtain ⟨V, hV⟩ : ∃ V, V = viewB g := ⟨_, rfl⟩
  rw [← hV] at HV ⊢
  clear hg hS hV
  go_enter Tryz.func54, Tryz.ntmps54
  go_wp2_with fail
  refine (CG.out _).mono ?_
  rintro e w1 ⟨rfl, hk1⟩
  have c6 := (hk1.cells w.heap.size 6 (by simp))
  have c7 := (hk1.cells w.heap.size 7 (by simp))
  have c8 := (hk1.cells w.heap.size 8 (by simp))
  simp at c6 c7 c8
  have hz5 := lt_of_cell c6
  have K1 := hide (((Below.refl _ w).alloc (Nat.le_refl _) (.cells #[.bool g.re.neg, .string g.re.n, .int .i64 g.re.e, .bool g.im.neg, .string g.im.n, .int .i64 g.im.e, .int .i64 g.exp, .int .i64 g.across, .int .i64 g.down] 29)).trans (hk1.mono (by simp)))
  clear hk1
  cases G with
  | false =>
    go_wp2_with fail
    go_ret
    exact ⟨bool_ret (by rw [HV.out]; rfl), K1.out⟩
  | true =>
    go_wp2_with fail
    refine (CS.out _).mono ?_
    rintro e w2 ⟨rfl, rfl⟩
    cases S with
    | false =>
      go_wp2_with fail
      go_ret
      exact ⟨bool_ret (by rw [HV.out]; rfl), K1.out⟩
    | true =>
      go_wp2_with fail
      all_goals
        go_ret
        refine ⟨bool_ret ?_, K1.out⟩
        rw [HV.out]
        first | (simp; done) | (simp; omega) | (simp [*]; done)
/-- In how many pieces. -/
def partsI (n k : Int) : Int := n / k + min 1 (n % k)
theorem parts_is {n k : Int} (hk : 1 ≤ k) (hn : 1 ≤ n) : partsI n k = (n + k - 1) / k := by
  unfold partsI
  have h1 := Int.mul_ediv_add_emod n k
  have h2 := Int.emod_nonneg n (show k ≠ 0 by omega)
  have h3 := Int.emod_lt_of_pos n (show 0 < k by omega)
  symm
  rw [ediv_is hk, Int.add_mul]
  have h4 : n / k * k = k * (n / k) := Int.mul_comm _ _
  by_cases h0 : n % k = 0
  · rw [h0, show min 1 (0 : Int) = 0 by decide, Int.zero_mul]; omega
  · rw [show min 1 (n % k) = 1 by omega, Int.one_mul]; omega
set_option maxRecDepth 100000 in
set_option maxHeartbeats 1600000 in
theorem refParts_any (n k : Int) (w : World) (n0 : 1 ≤ n) (n1 : n ≤ 65536) (k0 : 1 ≤ k) (k1 : k ≤ 65536) : Calls Tryz.prog 56 #[.int .i64 n, .int .i64 k] w fun e w' => e = .returned (.int .i64 ((n + k - 1) / k)) ∧ ∃ m, w' = w.drewN m := by
  have HP := hide (parts_is k0 n0)
  have u1 := show k ≠ 0 by omega
  have u2 : (k == 0) = false := by simp; omega
  have t1 : Int.tdiv n k = n / k := Int.tdiv_eq_ediv_of_nonneg (by omega)
  have t2 : Int.tmod n k = n % k := Int.tmod_eq_emod_of_nonneg (by omega)
  have d0 : 0 ≤ n / k := Int.ediv_nonneg (by omega) (by omega)
  have d1 : n / k ≤ n := Int.ediv_le_self _ (by omega)
  have m0 := Int.emod_nonneg n (show k ≠ 0 by omega)
  have m1 := Int.emod_lt_of_pos n (show 0 < k by omega)
  have e1 : IntKind.i64.wrap (n / k) = n / k := IntWalk.i64_in _ (by omega)
  have e2 : IntKind.i64.wrap (n % k) = n % k := IntWalk.i64_in _ (by omega)
  have e3 : IntKind.i64.wrap (n / k + min 1 (n % k)) = n / k + min 1 (n % k) := IntWalk.i64_in _ (by omega)
  unfold partsI at HP
  rcases (show n % k = 0 ∨ 1 ≤ n % k by omega) with c | c
  · have M1 : min 1 (n % k) = n % k := by omega
    rw [M1] at HP e3
    have c1 : ¬ 1 ≤ n % k := by omega
    clear c
    go_enter Tryz.func56, Tryz.ntmps56
    go_wp2_with fail
    refine wp_region_L (fun X => True) 8 (by kernel_rfl) ?_ (fun hHeld => ?_)
    · trivial
    refine wpAnyL_take (i := 0) (v := ?_) (some 5) rfl rfl (by kernel_rfl) (by kernel_rfl) (by kernel_rfl) (by kernel_rfl) (fun _ _ _ h => h) (Or.inl ⟨by rfl, ?_⟩) (by assumption) ?_
    rotate_left
    · intro w hSw; (try dsimp only at hSw); go_simp; (try with_reducible rfl)
    try simp only [Act.put, List.setIfInBounds_toArray, List.set_cons_zero, List.set_cons_succ]
    refine wpAnyL_take (i := 1) (v := ?_) (some 6) rfl rfl (by kernel_rfl) (by kernel_rfl) (by kernel_rfl) (by kernel_rfl) (fun _ _ _ h => h) (Or.inl ⟨by rfl, ?_⟩) (by assumption) ?_
    rotate_left
    · intro w hSw; (try dsimp only at hSw); go_simp; (try with_reducible rfl)
    try simp only [Act.put, List.setIfInBounds_toArray, List.set_cons_zero, List.set_cons_succ]
    refine wpAnyL_take (i := 2) (v := ?_) (some 7) rfl rfl (by kernel_rfl) (by kernel_rfl) (by kernel_rfl) (by kernel_rfl) (fun _ _ _ h => h) (Or.inl ⟨by rfl, ?_⟩) (by assumption) ?_
    rotate_left
    · intro w hSw; (try dsimp only at hSw); go_simp; (try with_reducible rfl)
    try simp only [Act.put, List.setIfInBounds_toArray, List.set_cons_zero, List.set_cons_succ]
    refine wpAnyL_take (i := 3) (v := ?_) (some 8) rfl rfl (by kernel_rfl) (by kernel_rfl) (by kernel_rfl) (by kernel_rfl) (fun _ _ _ h => h) (Or.inl ⟨by rfl, ?_⟩) (by assumption) ?_
    rotate_left
    · intro w hSw; (try dsimp only at hSw); go_simp; (try with_reducible rfl)
    try simp only [Act.put, List.setIfInBounds_toArray, List.set_cons_zero, List.set_cons_succ]
    refine wpAnyL_take (i := 4) (v := ?_) (some 9) rfl rfl (by kernel_rfl) (by kernel_rfl) (by kernel_rfl) (by kernel_rfl) (fun _ _ _ h => h) (Or.inl ⟨by rfl, ?_⟩) (by assumption) ?_
    rotate_left
    · intro w hSw; (try dsimp only at hSw); go_simp; (try with_reducible rfl)
    try simp only [Act.put, List.setIfInBounds_toArray, List.set_cons_zero, List.set_cons_succ]
    refine wpAnyL_take (i := 5) (v := ?_) (some 10) rfl rfl (by kernel_rfl) (by kernel_rfl) (by kernel_rfl) (by kernel_rfl) (fun _ _ _ h => h) (Or.inl ⟨by rfl, ?_⟩) (by assumption) ?_
    rotate_left
    · intro w hSw; (try dsimp only at hSw); go_simp; (try with_reducible rfl)
    try simp only [Act.put, List.setIfInBounds_toArray, List.set_cons_zero, List.set_cons_succ]
    refine wpAnyL_one (i := 6) (by kernel_rfl) rfl (fun K hK => ?_)
    go_simp
    refine hK.out _ _ ?_ (fun hHeld => ?_)
    · trivial
    clear hK K
    try simp only [Act.put, List.setIfInBounds_toArray, List.set_cons_zero, List.set_cons_succ]
    refine wpAnyL_one (i := 7) (by kernel_rfl) rfl (fun K hK => ?_)
    go_simp
    refine hK.out _ _ ?_ (fun hHeld => ?_)
    · trivial
    clear hK K
    try simp only [Act.put, List.setIfInBounds_toArray, List.set_cons_zero, List.set_cons_succ]
    refine wpAnyL_end (by kernel_rfl) rfl (fun K hK => ?_)
    go_simp
    refine hK.out _ _ ?_
    clear hK K
    try simp only [Act.put, List.setIfInBounds_toArray, List.set_cons_zero, List.set_cons_succ]
    refine wpAnyL_done (by kernel_rfl) ?_ _
    go_wp2_with fail
    go_ret
    exact ⟨int_ret HP.out, 1, rfl⟩
  · have M1 : min 1 (n % k) = 1 := by omega
    rw [M1] at HP e3
    go_enter Tryz.func56, Tryz.ntmps56
    go_wp2_with fail
    refine wp_region_L (fun X => True) 8 (by kernel_rfl) ?_ (fun hHeld => ?_)
    · trivial
    refine wpAnyL_take (i := 0) (v := ?_) (some 5) rfl rfl (by kernel_rfl) (by kernel_rfl) (by kernel_rfl) (by kernel_rfl) (fun _ _ _ h => h) (Or.inl ⟨by rfl, ?_⟩) (by assumption) ?_
    rotate_left
    · intro w hSw; (try dsimp only at hSw); go_simp; (try with_reducible rfl)
    try simp only [Act.put, List.setIfInBounds_toArray, List.set_cons_zero, List.set_cons_succ]
    refine wpAnyL_take (i := 1) (v := ?_) (some 6) rfl rfl (by kernel_rfl) (by kernel_rfl) (by kernel_rfl) (by kernel_rfl) (fun _ _ _ h => h) (Or.inl ⟨by rfl, ?_⟩) (by assumption) ?_
    rotate_left
    · intro w hSw; (try dsimp only at hSw); go_simp; (try with_reducible rfl)
    try simp only [Act.put, List.setIfInBounds_toArray, List.set_cons_zero, List.set_cons_succ]
    refine wpAnyL_take (i := 2) (v := ?_) (some 7) rfl rfl (by kernel_rfl) (by kernel_rfl) (by kernel_rfl) (by kernel_rfl) (fun _ _ _ h => h) (Or.inl ⟨by rfl, ?_⟩) (by assumption) ?_
    rotate_left
    · intro w hSw; (try dsimp only at hSw); go_simp; (try with_reducible rfl)
    try simp only [Act.put, List.setIfInBounds_toArray, List.set_cons_zero, List.set_cons_succ]
    refine wpAnyL_take (i := 3) (v := ?_) (some 8) rfl rfl (by kernel_rfl) (by kernel_rfl) (by kernel_rfl) (by kernel_rfl) (fun _ _ _ h => h) (Or.inl ⟨by rfl, ?_⟩) (by assumption) ?_
    rotate_left
    · intro w hSw; (try dsimp only at hSw); go_simp; (try with_reducible rfl)
    try simp only [Act.put, List.setIfInBounds_toArray, List.set_cons_zero, List.set_cons_succ]
    refine wpAnyL_take (i := 4) (v := ?_) (some 9) rfl rfl (by kernel_rfl) (by kernel_rfl) (by kernel_rfl) (by kernel_rfl) (fun _ _ _ h => h) (Or.inl ⟨by rfl, ?_⟩) (by assumption) ?_
    rotate_left
    · intro w hSw; (try dsimp only at hSw); go_simp; (try with_reducible rfl)
    try simp only [Act.put, List.setIfInBounds_toArray, List.set_cons_zero, List.set_cons_succ]
    refine wpAnyL_take (i := 5) (v := ?_) (some 10) rfl rfl (by kernel_rfl) (by kernel_rfl) (by kernel_rfl) (by kernel_rfl) (fun _ _ _ h => h) (Or.inl ⟨by rfl, ?_⟩) (by assumption) ?_
    rotate_left
    · intro w hSw; (try dsimp only at hSw); go_simp; (try with_reducible rfl)
    try simp only [Act.put, List.setIfInBounds_toArray, List.set_cons_zero, List.set_cons_succ]
    refine wpAnyL_one (i := 6) (by kernel_rfl) rfl (fun K hK => ?_)
    go_simp
    refine hK.out _ _ ?_ (fun hHeld => ?_)
    · trivial
    clear hK K
    try simp only [Act.put, List.setIfInBounds_toArray, List.set_cons_zero, List.set_cons_succ]
    refine wpAnyL_one (i := 7) (by kernel_rfl) rfl (fun K hK => ?_)
    go_simp
    refine hK.out _ _ ?_ (fun hHeld => ?_)
    · trivial
    clear hK K
    try simp only [Act.put, List.setIfInBounds_toArray, List.set_cons_zero, List.set_cons_succ]
    refine wpAnyL_end (by kernel_rfl) rfl (fun K hK => ?_)
    go_simp
    refine hK.out _ _ ?_
    clear hK K
    try simp only [Act.put, List.setIfInBounds_toArray, List.set_cons_zero, List.set_cons_succ]
    refine wpAnyL_done (by kernel_rfl) ?_ _
    go_wp2_with fail
    go_ret
    exact ⟨int_ret HP.out, 1, rfl⟩
set_option maxRecDepth 100000 in
set_option maxHeartbeats 1600000 in
theorem refWithin_any (x y m : Int) (w : World) (hx : in64 x) (hy : in64 y) (m0 : 0 ≤ m) (m1 : m ≤ 1000000000) : Calls Tryz.prog 55 #[.int .i64 x, .int .i64 y, .int .i64 m] w fun e w' => e = .returned (.bool (decide (1 ≤ x ∧ 1 ≤ y ∧ x ≤ m ∧ x * y ≤ m))) ∧ w' = w := by
  by_cases h1 : 1 ≤ x
  · have u1 := show x ≠ 0 by omega
    have u2 : (x == 0) = false := by simp; omega
    obtain ⟨Q, hQ⟩ : ∃ Q, Q = m / x := ⟨_, rfl⟩
    have t1 : Int.tdiv m x = Q := by rw [hQ]; exact Int.tdiv_eq_ediv_of_nonneg m0
    have d0 : 0 ≤ Q := by rw [hQ]; exact Int.ediv_nonneg m0 (by omega)
    have d1 : Q ≤ m := by rw [hQ]; exact Int.ediv_le_self _ m0
    have e1 : IntKind.i64.wrap Q = Q := IntWalk.i64_in _ (by omega)
    have hq : y ≤ Q ↔ x * y ≤ m := by rw [hQ, Int.le_ediv_iff_mul_le (by omega), Int.mul_comm]
    have HQ := hide hq
    clear hq d0 d1 hQ
    go_enter Tryz.func55, Tryz.ntmps55
    go_wp2
    all_goals
      go_ret
      refine ⟨bool_ret ?_, rfl⟩
      have hq := HQ.out
      clear t1 e1
      first | (simp [*]; done) | (simp [*]; omega) | (simp; omega)
  · go_enter Tryz.func55, Tryz.ntmps55
    go_wp2
    go_ret
    exact ⟨bool_ret (by simp; omega), rfl⟩
/-- A grid in a box of the call's own. -/
structure GCls (w0 : World) (g : GrD) (W : World) : Prop where
  bx : GBox W w0.heap.size g
  kp : Kept w0 W
  lt : w0.heap.size < W.heap.size
theorem GCls.on {w0 W W' : World} {g : GrD} (h : GCls w0 g W) (k : Kept W W') : GCls w0 g W' := ⟨h.bx.below k h.lt, h.kp.trans' k, Nat.lt_of_lt_of_le h.lt k.size⟩
theorem GCls.new (w : World) (g : GrD) : GCls w g (w.alloc (.cells #[.bool g.re.neg, .string g.re.n, .int .i64 g.re.e, .bool g.im.neg, .string g.im.n, .int .i64 g.im.e, .int .i64 g.exp, .int .i64 g.across, .int .i64 g.down, .int .i64 g.wide, .int .i64 g.high] 31)) := ⟨GBox.new w g _ _ rfl, (Below.refl _ _).alloc (Nat.le_refl _) _, by simp⟩
set_option maxRecDepth 100000 in
set_option maxHeartbeats 1600000 in
theorem refCount_any (g : GrD) (w : World) (hB : GrBnd g) : Calls Tryz.prog 23 #[.agg #[.bool g.re.neg, .string g.re.n, .int .i64 g.re.e, .bool g.im.neg, .string g.im.n, .int .i64 g.im.e, .int .i64 g.exp, .int .i64 g.across, .int .i64 g.down, .int .i64 g.wide, .int .i64 g.high]] w fun e w' => e = .returned (.tuple #[.int .i64 (gridA g), .int .i64 (gridD g)]) ∧ Kept w w' := by
  obtain ⟨a0, a1, d0, d1, w0, w1', h0, h1⟩ := hB
  have C1 : Hid (∀ W, Calls Tryz.prog 56 #[.int .i64 g.across, .int .i64 g.wide] W fun e w' => e = .returned (.int .i64 (gridA g)) ∧ ∃ m, w' = W.drewN m) := by intro W; unfold gridA; exact refParts_any g.across g.wide W a0 a1 w0 w1'
  have C2 : Hid (∀ W, Calls Tryz.prog 56 #[.int .i64 g.down, .int .i64 g.high] W fun e w' => e = .returned (.int .i64 (gridD g)) ∧ ∃ m, w' = W.drewN m) := by intro W; unfold gridD; exact refParts_any g.down g.high W d0 d1 h0 h1
  have HB := hide (GCls.new w g)
  clear a0 a1 d0 d1 w0 w1' h0 h1
  go_enter Tryz.func23, Tryz.ntmps23
  obtain ⟨W0, hW0⟩ : ∃ W0, W0 = w.alloc (.cells #[.bool g.re.neg, .string g.re.n, .int .i64 g.re.e, .bool g.im.neg, .string g.im.n, .int .i64 g.im.e, .int .i64 g.exp, .int .i64 g.across, .int .i64 g.down, .int .i64 g.wide, .int .i64 g.high] 31) := ⟨_, rfl⟩
  go_upto_region 1 with fail
  rw [← hW0] at HB ⊢
  clear hW0
  obtain ⟨q0, q1, q2, q3, q4, q5, q6, q7, q8, q9, q10⟩ := HB.out.bx
  have hz := HB.out.lt
  go_wp2_with fail
  go_quiet (first | (go_at_call 56; with_reducible exact Calls.quiet_of (C1.out _)) | (go_at_call 56; with_reducible exact Calls.quiet_of (C2.out _)))
  go_wp2_with fail
  exact bodyPost_ret (v := .tuple #[.int .i64 (gridA g), .int .i64 (gridD g)]) (by simp [results, Tryz.results23, go_sem]) rfl ⟨rfl, drewN_below HB.out.kp _⟩
set_option maxRecDepth 100000 in
set_option maxHeartbeats 1600000 in
theorem refCheck_any (g : GrD) (w : World) (hg : g.ok) : Calls Tryz.prog 17 #[.agg #[.bool g.re.neg, .string g.re.n, .int .i64 g.re.e, .bool g.im.neg, .string g.im.n, .int .i64 g.im.e, .int .i64 g.exp, .int .i64 g.across, .int .i64 g.down, .int .i64 g.wide, .int .i64 g.high]] w fun e w' => e = .returned (.int .i64 (gridI g)) ∧ Kept w w' := by
  have CM := hide (fun (W : World) => refWMay_any g W hg)
  have HB := hide (GCls.new w g)
  cases hv : viewB g with
  | false =>
    have HI := hide (show gridI g = 240 by unfold gridI; rw [hv]; rfl)
    rw [hv] at CM
    obtain ⟨q0, q1, q2, q3, q4, q5, q6, q7, q8, q9, q10⟩ := HB.out.bx
    have hz := HB.out.lt
    clear hv hg
    go_enter Tryz.func17, Tryz.ntmps17
    go_wp2_with fail
    refine (CM.out _).mono ?_
    rintro e w1 ⟨rfl, hk1⟩
    have K1 := hide (HB.out.on hk1)
    clear hk1
    go_wp2_with fail
    go_ret
    exact ⟨int_ret HI.out.symm, K1.out.kp⟩
  | true =>
    obtain ⟨a0, a1, d0, d1⟩ := viewB_bnd hv
    have CW1 := hide (fun (W : World) => refWithin_any g.wide g.high 65536 W hg.wide hg.high (by omega) (by omega))
    rw [hv] at CM
    cases hc : cellsB g with
    | false =>
      have HI := hide (show gridI g = 2 by unfold gridI; rw [hv, hc]; rfl)
      obtain ⟨E1, hE1⟩ : ∃ E1, E1 = decide (1 ≤ g.wide ∧ 1 ≤ g.high ∧ g.wide ≤ 65536 ∧ g.wide * g.high ≤ 65536) := ⟨_, rfl⟩
      rw [← hE1] at CW1
      obtain rfl : E1 = false := by
        rw [hE1, decide_eq_false_iff_not]
        rintro ⟨x1, x2, x3, x4⟩
        have hc' := of_decide_eq_false hc
        have x5 : 1 * g.high ≤ g.wide * g.high := Int.mul_le_mul_of_nonneg_right x1 (by omega)
        rw [Int.one_mul] at x5
        exact hc' ⟨x1, x2, x3, Int.le_trans x5 x4, x4⟩
      clear hE1
      obtain ⟨q0, q1, q2, q3, q4, q5, q6, q7, q8, q9, q10⟩ := HB.out.bx
      have hz := HB.out.lt
      clear hv hg hc
      go_enter Tryz.func17, Tryz.ntmps17
      go_wp2_with fail
      refine (CM.out _).mono ?_
      rintro e w1 ⟨rfl, hk1⟩
      have K1 := hide (HB.out.on hk1)
      clear hk1 q0 q1 q2 q3 q4 q5 q6 q7 q8 q9 q10
      go_wp2_with fail
      obtain ⟨q0, q1, q2, q3, q4, q5, q6, q7, q8, q9, q10⟩ := K1.out.bx
      have hz1 := K1.out.lt
      go_quiet ((go_at_call 55; with_reducible exact Calls.quiet_of_same (CW1.out _)))
      go_wp2_with fail
      go_ret
      exact ⟨int_ret HI.out.symm, drewN_below K1.out.kp _⟩
    | true =>
      have hc' := hc
      simp only [cellsB, decide_eq_true_eq] at hc'
      obtain ⟨w0, h0, w1', h1, hm⟩ := hc'
      obtain ⟨E1, hE1⟩ : ∃ E1, E1 = decide (1 ≤ g.wide ∧ 1 ≤ g.high ∧ g.wide ≤ 65536 ∧ g.wide * g.high ≤ 65536) := ⟨_, rfl⟩
      rw [← hE1] at CW1
      obtain rfl : E1 = true := by rw [hE1]; exact decide_eq_true ⟨w0, h0, w1', hm⟩
      clear hE1
      have hB : GrBnd g := ⟨a0, a1, d0, d1, w0, w1', h0, h1⟩
      obtain ⟨ga0, ga1⟩ := hB.gA
      obtain ⟨gd0, gd1⟩ := hB.gD
      have C1 : Hid (∀ W, Calls Tryz.prog 56 #[.int .i64 g.across, .int .i64 g.wide] W fun e w' => e = .returned (.int .i64 (gridA g)) ∧ ∃ m, w' = W.drewN m) := by intro W; unfold gridA; exact refParts_any g.across g.wide W a0 a1 w0 w1'
      have C2 : Hid (∀ W, Calls Tryz.prog 56 #[.int .i64 g.down, .int .i64 g.high] W fun e w' => e = .returned (.int .i64 (gridD g)) ∧ ∃ m, w' = W.drewN m) := by intro W; unfold gridD; exact refParts_any g.down g.high W d0 d1 h0 h1
      have CW2 := hide (fun (W : World) => refWithin_any (gridA g) (gridD g) 65536 W ⟨by omega, by omega⟩ ⟨by omega, by omega⟩ (by omega) (by omega))
      obtain ⟨E, hE⟩ : ∃ E, E = decide (1 ≤ gridA g ∧ 1 ≤ gridD g ∧ gridA g ≤ 65536 ∧ gridA g * gridD g ≤ 65536) := ⟨_, rfl⟩
      have HI : Hid (gridI g = if E then 0 else 2) := by
        show gridI g = _
        unfold gridI
        rw [hv, hc, hE, if_pos rfl, if_pos rfl]
        by_cases h : gridA g * gridD g ≤ 65536
        · rw [if_pos h, if_pos (decide_eq_true ⟨ga0, gd0, ga1, h⟩)]
        · rw [if_neg h, if_neg (fun k => h (of_decide_eq_true k).2.2.2)]
      rw [← hE] at CW2
      obtain ⟨q0, q1, q2, q3, q4, q5, q6, q7, q8, q9, q10⟩ := HB.out.bx
      have hz := HB.out.lt
      clear hv hg hc hE hB hm w0 h0 w1' h1 a0 a1 d0 d1 ga0 ga1 gd0 gd1
      cases E with
      | true =>
        go_enter Tryz.func17, Tryz.ntmps17
        go_wp2_with fail
        refine (CM.out _).mono ?_
        rintro e w1 ⟨rfl, hk1⟩
        have K1 := hide (HB.out.on hk1)
        clear hk1 q0 q1 q2 q3 q4 q5 q6 q7 q8 q9 q10
        go_wp2_with fail
        obtain ⟨q0, q1, q2, q3, q4, q5, q6, q7, q8, q9, q10⟩ := K1.out.bx
        have hz1 := K1.out.lt
        go_quiet (first | (go_at_call 55; with_reducible exact Calls.quiet_of_same (CW1.out _)) | (go_at_call 55; with_reducible exact Calls.quiet_of_same (CW2.out _)) | (go_at_call 56; with_reducible exact Calls.quiet_of (C1.out _)) | (go_at_call 56; with_reducible exact Calls.quiet_of (C2.out _)))
        go_wp2_with fail
        go_ret
        exact ⟨int_ret HI.out.symm, drewN_below K1.out.kp _⟩
      | false =>
        go_enter Tryz.func17, Tryz.ntmps17
        go_wp2_with fail
        refine (CM.out _).mono ?_
        rintro e w1 ⟨rfl, hk1⟩
        have K1 := hide (HB.out.on hk1)
        clear hk1 q0 q1 q2 q3 q4 q5 q6 q7 q8 q9 q10
        go_wp2_with fail
        obtain ⟨q0, q1, q2, q3, q4, q5, q6, q7, q8, q9, q10⟩ := K1.out.bx
        have hz1 := K1.out.lt
        go_quiet (first | (go_at_call 55; with_reducible exact Calls.quiet_of_same (CW1.out _)) | (go_at_call 55; with_reducible exact Calls.quiet_of_same (CW2.out _)) | (go_at_call 56; with_reducible exact Calls.quiet_of (C1.out _)) | (go_at_call 56; with_reducible exact Calls.quiet_of (C2.out _)))
        go_wp2_with fail
        go_ret
        exact ⟨int_ret HI.out.symm, drewN_below K1.out.kp _⟩
end Go.Proofs.YtneakieigiafpaaGreatDoor
