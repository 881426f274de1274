/- Balls walked: Hi, Contracts. -/
import Derived.Test.YtneakieigiafpaaGreatDoorBalW
namespace Go.Proofs.YtneakieigiafpaaGreatDoor
open Go.RowKit
attribute [local go_sem] run_float_arith run_f64bits run_f64from run_neg_float run_store_float run_store_complex

/-- A ball in a box of its own. -/
structure Box1 (w0 : World) (n : Nat) (a : Ba) (W : World) : Prop where
  a0 : W.cell? ⟨n, 0, none⟩ = some (.complex .f64 a.c.re a.c.im)
  a1 : W.cell? ⟨n, 1, none⟩ = some (.float .f64 a.r)
  size : n < W.heap.size
  kept : Below n w0 W
theorem Box1.on {w0 W W' : World} {n : Nat} {a : Ba} (h : Box1 w0 n a W) (k : Kept W W') : Box1 w0 n a W' := by
  have hs := h.size
  refine ⟨?_, ?_, Nat.lt_of_lt_of_le hs k.size, h.kept.trans (k.mono (by omega))⟩
  · rw [k.cells _ _ (by omega)]; exact h.a0
  · rw [k.cells _ _ (by omega)]; exact h.a1
theorem Box1.mk1 (w : World) (a : Ba) (t : TypeId) : Box1 w w.heap.size a (w.alloc (.cells #[.complex .f64 a.c.re a.c.im, .float .f64 a.r] t)) := by
  refine ⟨?_, ?_, ?_, ?_⟩
  · go_simp
  · go_simp
  · go_simp
  · exact (Below.refl _ w).alloc (Nat.le_refl _) _
set_option maxRecDepth 100000 in
set_option maxHeartbeats 800000 in
theorem bhi_any (a : Ba) (r : Nat) (h : bhiO a = some r) (w : World) : Calls Tryz.prog 221 #[a.v] w fun e w' => e = .returned (.float .f64 r) ∧ Kept w w' := by
  unfold bhiO at h
  split at h
  · rename_i hf
    obtain ⟨x, hx, g⟩ := Option.bind_eq_some_iff.1 h
    have C1 := hide (fun W => isWhole_any a hf W)
    have C2 := hide (fun W => chi_any a.c x hx W)
    have C3 := hide (fun W => plus_any x a.r r g W)
    clear g hx h hf
    obtain ⟨⟨a1, a2⟩, ar⟩ := a
    unfold Ba.v at *
    dsimp only at C1 C2 C3 ⊢
    go_enter Tryz.func221, Tryz.ntmps221
    go_wp2_with fail
    refine (C1.out _).mono ?_
    rintro e w1 ⟨rfl, hk1⟩
    have HB := hide (Box1.on (Box1.mk1 w ⟨⟨a1, a2⟩, ar⟩ 109) hk1)
    clear hk1
    go_wp2_with fail
    refine wp_region_quiet (C := (Box1 w w.heap.size ⟨⟨a1, a2⟩, ar⟩)) (by kernel_rfl) (by kernel_rfl) ?_ ?_
    · exact HB.out.on (kept_drew _)
    dsimp only [List.take]
    refine wpQuiet_take (v := ?_) (some 6) rfl (by kernel_rfl) (fun wr hw => ?_) ?_
    rotate_left
    · (have e0 := hw.a0; have e1 := hw.a1; dsimp only at e0 e1); go_simp; (try with_reducible rfl)
    try simp only [Act.put, List.setIfInBounds_toArray, List.set_cons_zero, List.set_cons_succ]
    refine wpQuiet_take (v := ?_) (some 7) rfl (by kernel_rfl) (fun wr hw => ?_) ?_
    rotate_left
    · (have e0 := hw.a0; have e1 := hw.a1; dsimp only at e0 e1); go_simp; (try with_reducible rfl)
    try simp only [Act.put, List.setIfInBounds_toArray, List.set_cons_zero, List.set_cons_succ]
    refine wpQuiet_call (v := ?_) (f := ?_) (args := ?_) (some 8) rfl (by kernel_rfl) (fun wr hw => ?_) (fun wr hw => ?_) ?_
    rotate_left 3
    · (have e0 := hw.a0; have e1 := hw.a1; dsimp only at e0 e1); go_simp; refine ⟨?_, ?_⟩ <;> with_reducible rfl
    · refine (C2.out wr).mono ?_; rintro e w' ⟨rfl, rfl⟩; refine ⟨?_, hw⟩; with_reducible rfl
    try simp only [Act.put, List.setIfInBounds_toArray, List.set_cons_zero, List.set_cons_succ]
    refine wpQuiet_take (v := ?_) (some 9) rfl (by kernel_rfl) (fun wr hw => ?_) ?_
    rotate_left
    · (have e0 := hw.a0; have e1 := hw.a1; dsimp only at e0 e1); go_simp; (try with_reducible rfl)
    try simp only [Act.put, List.setIfInBounds_toArray, List.set_cons_zero, List.set_cons_succ]
    refine wpQuiet_take (v := ?_) (some 10) rfl (by kernel_rfl) (fun wr hw => ?_) ?_
    rotate_left
    · (have e0 := hw.a0; have e1 := hw.a1; dsimp only at e0 e1); go_simp; (try with_reducible rfl)
    try simp only [Act.put, List.setIfInBounds_toArray, List.set_cons_zero, List.set_cons_succ]
    refine wpQuiet_call (v := ?_) (f := ?_) (args := ?_) (some 11) rfl (by kernel_rfl) (fun wr hw => ?_) (fun wr hw => ?_) ?_
    rotate_left 3
    · (have e0 := hw.a0; have e1 := hw.a1; dsimp only at e0 e1); go_simp; refine ⟨?_, ?_⟩ <;> with_reducible rfl
    · refine (C3.out wr).mono ?_; rintro e w' ⟨rfl, rfl⟩; refine ⟨?_, hw⟩; with_reducible rfl
    try simp only [Act.put, List.setIfInBounds_toArray, List.set_cons_zero, List.set_cons_succ]
    refine wpQuiet_take (v := ?_) (some 2) rfl (by kernel_rfl) (fun wr hw => ?_) ?_
    rotate_left
    · (have e0 := hw.a0; have e1 := hw.a1; dsimp only at e0 e1); go_simp; (try with_reducible rfl)
    try simp only [Act.put, List.setIfInBounds_toArray, List.set_cons_zero, List.set_cons_succ]
    refine wpQuiet_nil ?_
    intro wq hq
    go_wp2_with fail
    go_ret
    exact ⟨rfl, hq.kept⟩
  · cases h
/-- Two balls in boxes of their own. -/
structure Box2 (w0 : World) (n : Nat) (a b : Ba) (W : World) : Prop where
  a0 : W.cell? ⟨n, 0, none⟩ = some (.complex .f64 a.c.re a.c.im)
  a1 : W.cell? ⟨n, 1, none⟩ = some (.float .f64 a.r)
  b0 : W.cell? ⟨n + 1, 0, none⟩ = some (.complex .f64 b.c.re b.c.im)
  b1 : W.cell? ⟨n + 1, 1, none⟩ = some (.float .f64 b.r)
  size : n + 1 < W.heap.size
  kept : Below n w0 W
theorem Box2.on {w0 W W' : World} {n : Nat} {a b : Ba} (h : Box2 w0 n a b W) (k : Kept W W') : Box2 w0 n a b W' := by
  have hs := h.size
  refine ⟨?_, ?_, ?_, ?_, Nat.lt_of_lt_of_le hs k.size, h.kept.trans (k.mono (by omega))⟩
  · rw [k.cells _ _ (by omega)]; exact h.a0
  · rw [k.cells _ _ (by omega)]; exact h.a1
  · rw [k.cells _ _ (by omega)]; exact h.b0
  · rw [k.cells _ _ (by omega)]; exact h.b1
theorem Box2.mk2 (w : World) (a b : Ba) (t : TypeId) : Box2 w w.heap.size a b ((w.alloc (.cells #[.complex .f64 a.c.re a.c.im, .float .f64 a.r] t)).alloc (.cells #[.complex .f64 b.c.re b.c.im, .float .f64 b.r] t)) := by
  refine ⟨?_, ?_, ?_, ?_, ?_, ?_⟩
  · go_simp
  · go_simp
  · go_simp
  · go_simp
  · go_simp
  · exact ((Below.refl _ w).alloc (Nat.le_refl _) _).alloc (by simp) _
set_option maxRecDepth 100000 in
set_option maxHeartbeats 800000 in
theorem contracts_any (m s : Ba) (r q : Nat) (ok : Bool) (h : contractsO m s r = some (q, ok)) (w : World) : Calls Tryz.prog 168 #[m.v, s.v, .float .f64 r] w fun e w' => e = .returned (.tuple #[.float .f64 q, .bool ok]) ∧ Kept w w' := by
  obtain ⟨y, hy, g⟩ := Option.bind_eq_some_iff.1 h
  have C1 := hide (fun W => bhi_any s y hy W)
  cases hf : finB r with
  | false => rw [hf, Bool.not_false, if_pos rfl] at g; cases g
  | true =>
    rw [hf, Bool.not_true, if_neg (by decide)] at g
    have C2 := hide (fun W => finite_any r hf W)
    clear hy h hf
    cases h0 : (ordN r 0 == some .lt || ordN r 0 == some .eq) with
    | true =>
      rw [h0, Bool.true_or, if_pos rfl] at g
      cases g
      change (FloatKind.f64.format.order r 0 == some .lt || FloatKind.f64.format.order r 0 == some .eq) = true at h0
      obtain ⟨⟨m1, m2⟩, mr⟩ := m
      obtain ⟨⟨s1, s2⟩, sr⟩ := s
      unfold Ba.v at *
      dsimp only at C1 C2 ⊢
      go_enter Tryz.func168, Tryz.ntmps168
      go_wp2_with fail
      refine (C1.out _).mono ?_
      rintro e w1 ⟨rfl, hk1⟩
      have HB := hide (Box2.on (Box2.mk2 w ⟨⟨m1, m2⟩, mr⟩ ⟨⟨s1, s2⟩, sr⟩ 109) hk1)
      clear hk1
      go_wp2_with fail
      refine (C2.out _).mono ?_
      rintro e w1 ⟨rfl, rfl⟩
      go_wp2_with fail
      go_ret2
      exact ⟨rfl, HB.out.kept⟩
    | false =>
      rw [h0, Bool.false_or] at g
      change (FloatKind.f64.format.order r 0 == some .lt || FloatKind.f64.format.order r 0 == some .eq) = false at h0
      cases h1 : (ordN y ONE == some .lt) with
      | false =>
        rw [h1, Bool.not_false, if_pos rfl] at g
        cases g
        change (FloatKind.f64.format.order y 4607182418800017408 == some .lt) = false at h1
        obtain ⟨⟨m1, m2⟩, mr⟩ := m
        obtain ⟨⟨s1, s2⟩, sr⟩ := s
        unfold Ba.v at *
        dsimp only at C1 C2 ⊢
        go_enter Tryz.func168, Tryz.ntmps168
        go_wp2_with fail
        refine (C1.out _).mono ?_
        rintro e w1 ⟨rfl, hk1⟩
        have HB := hide (Box2.on (Box2.mk2 w ⟨⟨m1, m2⟩, mr⟩ ⟨⟨s1, s2⟩, sr⟩ 109) hk1)
        clear hk1
        go_wp2_with fail
        refine (C2.out _).mono ?_
        rintro e w1 ⟨rfl, rfl⟩
        go_wp2_with fail
        go_ret2
        exact ⟨rfl, HB.out.kept⟩
      | true =>
        rw [h1, Bool.not_true, if_neg (by decide)] at g
        change (FloatKind.f64.format.order y 4607182418800017408 == some .lt) = true at h1
        obtain ⟨x, hx, g1⟩ := Option.bind_eq_some_iff.1 g
        obtain ⟨t, ht, g2⟩ := Option.bind_eq_some_iff.1 g1
        obtain ⟨u, hu, g3⟩ := Option.bind_eq_some_iff.1 g2
        have C3 := hide (fun W => bhi_any m x hx W)
        have C4 := hide (fun W => times_any y r t ht W)
        have C5 := hide (fun W => plus_any x t u hu W)
        clear g g1 g2 hx ht hu
        obtain ⟨⟨m1, m2⟩, mr⟩ := m
        obtain ⟨⟨s1, s2⟩, sr⟩ := s
        unfold Ba.v at *
        dsimp only at C1 C2 C3 C4 C5 ⊢
        obtain ⟨v, hv⟩ : ∃ v, (ordN u r == some .gt) = v := ⟨_, rfl⟩
        rw [hv] at g3
        change (FloatKind.f64.format.order u r == some .gt) = v at hv
        go_enter Tryz.func168, Tryz.ntmps168
        go_wp2_with fail
        refine (C1.out _).mono ?_
        rintro e w1 ⟨rfl, hk1⟩
        have HB1 := Box2.on (Box2.mk2 w ⟨⟨m1, m2⟩, mr⟩ ⟨⟨s1, s2⟩, sr⟩ 109) hk1
        have e0 := HB1.a0
        have e1 := HB1.a1
        have e8 := HB1.size
        dsimp only at e0 e1
        have HB := hide HB1
        clear hk1 HB1
        cases v with
        | true =>
          rw [if_pos rfl] at g3
          cases g3
          go_wp2_with fail
          refine (C2.out _).mono ?_
          rintro e w1 ⟨rfl, rfl⟩
          go_wp2_with fail
          refine (C3.out _).mono ?_
          rintro e w2 ⟨rfl, hk2⟩
          have HC := hide (HB.out.on hk2)
          clear hk2 e0 e1 e8 HB
          go_wp2_with fail
          refine (C4.out _).mono ?_
          rintro e w3 ⟨rfl, rfl⟩
          go_wp2_with fail
          refine (C5.out _).mono ?_
          rintro e w3 ⟨rfl, rfl⟩
          go_wp2_with fail
          go_ret2
          exact ⟨rfl, HC.out.kept⟩
        | false =>
          rw [if_neg (by decide)] at g3
          cases g3
          go_wp2_with fail
          refine (C2.out _).mono ?_
          rintro e w1 ⟨rfl, rfl⟩
          go_wp2_with fail
          refine (C3.out _).mono ?_
          rintro e w2 ⟨rfl, hk2⟩
          have HC := hide (HB.out.on hk2)
          clear hk2 e0 e1 e8 HB
          go_wp2_with fail
          refine (C4.out _).mono ?_
          rintro e w3 ⟨rfl, rfl⟩
          go_wp2_with fail
          refine (C5.out _).mono ?_
          rintro e w3 ⟨rfl, rfl⟩
          go_wp2_with fail
          go_ret2
          exact ⟨rfl, HC.out.kept⟩
end Go.Proofs.YtneakieigiafpaaGreatDoor
