/- CpxW, BalW, BalH: texts of one claim laid together. -/
import Derived.Test.YtneakieigiafpaaGreatDoorFltX
import Derived.Test.YtneakieigiafpaaGreatDoorQuietT
import Derived.BigQuiet
/- Complex numbers walked: what a sum loses, kinds, sums, products, magnitudes. -/
namespace Go.Proofs.YtneakieigiafpaaGreatDoor
open Go.RowKit
attribute [local go_sem] run_float_arith run_f64bits run_f64from run_neg_float run_store_float run_store_complex

set_option maxRecDepth 100000 in
set_option maxHeartbeats 400000 in
theorem lost_any (x y r : Nat) (h : lostO x y = some r) (w : World) : Calls Tryz.prog 264 #[.float .f64 x, .float .f64 y] w fun e w' => e = .returned (.float .f64 r) ∧ w = w' := by
  obtain ⟨s, hs, h⟩ := Option.bind_eq_some_iff.1 h
  change floatBits .add .f64 x y = some s at hs
  have hsl := floatBits_lt hs
  cases h0 : eq0 x with
  | true =>
    rw [h0, Bool.true_or, Bool.true_or, if_pos rfl] at h
    cases h
    change (FloatKind.f64.format.order x 0 == some .eq) = true at h0
    clear hsl
    go_enter Tryz.func264, Tryz.ntmps264
    go_wp2
    go_ret
    exact ⟨rfl, rfl⟩
  | false =>
    change (FloatKind.f64.format.order x 0 == some .eq) = false at h0
    rw [show eq0 x = false from h0, Bool.false_or] at h
    cases h1 : eq0 y with
    | true =>
      rw [h1, Bool.true_or, if_pos rfl] at h
      cases h
      change (FloatKind.f64.format.order y 0 == some .eq) = true at h1
      clear hsl
      go_enter Tryz.func264, Tryz.ntmps264
      go_wp2
      go_ret
      exact ⟨rfl, rfl⟩
    | false =>
      change (FloatKind.f64.format.order y 0 == some .eq) = false at h1
      rw [show eq0 y = false from h1, Bool.false_or] at h
      cases h2 : eq0 s with
      | true =>
        rw [h2, if_pos rfl] at h
        cases h
        change (FloatKind.f64.format.order s 0 == some .eq) = true at h2
        clear hsl
        go_enter Tryz.func264, Tryz.ntmps264
        go_wp2
        go_ret
        exact ⟨rfl, rfl⟩
      | false =>
        change (FloatKind.f64.format.order s 0 == some .eq) = false at h2
        rw [show eq0 s = false from h2, if_neg (by decide)] at h
        obtain ⟨t, ht, h⟩ := Option.bind_eq_some_iff.1 h
        change floatBits .mul .f64 (absN s) 4368491638549381120 = some t at ht
        split at h
        · rename_i hf
          cases h
          have CA := hide (fun W => abs_any s hsl W)
          have CU := hide (fun W => up_any t hf W)
          clear hf hsl
          go_enter Tryz.func264, Tryz.ntmps264
          go_wp2_with (first | (go_at_call 210; refine (CA.out _).mono ?_; rintro e w1 ⟨rfl, rfl⟩) | (go_at_call 140; refine (CU.out _).mono ?_; rintro e w1 ⟨rfl, rfl⟩))
          go_ret
          exact ⟨rfl, rfl⟩
        · cases h
set_option maxRecDepth 100000 in
set_option maxHeartbeats 400000 in
theorem infinite_any (x : Nat) (h : finB x = true) (w : World) : Calls Tryz.prog 158 #[.float .f64 x] w fun e w' => e = .returned (.bool false) ∧ w = w' := by
  have hA := (finB_iff h).abs
  have CA := hide (fun W => abs_any x (finB_iff h).lt W)
  clear h
  go_enter Tryz.func158, Tryz.ntmps158
  go_wp2_with (first | (go_at_call 210; refine (CA.out _).mono ?_; rintro e w1 ⟨rfl, rfl⟩) | go_in)
  go_ret
  exact ⟨rfl, rfl⟩
set_option maxRecDepth 100000 in
set_option maxHeartbeats 400000 in
theorem nan_any (x : Nat) (h : finB x = true) (w : World) : Calls Tryz.prog 159 #[.float .f64 x] w fun e w' => e = .returned (.bool false) ∧ w = w' := by
  have hA := (finB_iff h).eq
  clear h
  go_enter Tryz.func159, Tryz.ntmps159
  go_wp2
  go_ret
  exact ⟨rfl, rfl⟩
theorem Co.fin_iff {z : Co} (h : z.fin = true) : finB z.re = true ∧ finB z.im = true := by
  simpa [Co.fin] using h
set_option maxRecDepth 100000 in
set_option maxHeartbeats 400000 in
theorem kind_any (z : Co) (h : z.fin = true) (w : World) : Calls Tryz.prog 85 #[.complex .f64 z.re z.im] w fun e w' => e = .returned (.int .u8 0) ∧ w = w' := by
  obtain ⟨x, y⟩ := z
  obtain ⟨h1, h2⟩ := Co.fin_iff h
  have C1 := hide (fun W => infinite_any x h1 W)
  have C2 := hide (fun W => infinite_any y h2 W)
  have C3 := hide (fun W => nan_any x h1 W)
  have C4 := hide (fun W => nan_any y h2 W)
  clear h h1 h2
  dsimp only
  go_enter Tryz.func85, Tryz.ntmps85
  go_wp2_with fail
  refine (C1.out _).mono ?_
  rintro e w1 ⟨rfl, rfl⟩
  go_wp2_with fail
  refine (C2.out _).mono ?_
  rintro e w1 ⟨rfl, rfl⟩
  go_wp2_with fail
  refine (C3.out _).mono ?_
  rintro e w1 ⟨rfl, rfl⟩
  go_wp2_with fail
  refine (C4.out _).mono ?_
  rintro e w1 ⟨rfl, rfl⟩
  go_wp2_with fail
  go_ret
  exact ⟨rfl, rfl⟩
set_option maxRecDepth 100000 in
set_option maxHeartbeats 400000 in
theorem cadd_any (a b c : Co) (h : caddO a b = some c) (w : World) : Calls Tryz.prog 297 #[.complex .f64 a.re a.im, .complex .f64 b.re b.im] w fun e w' => e = .returned (.complex .f64 c.re c.im) ∧ w = w' := by
  obtain ⟨a1, a2⟩ := a
  obtain ⟨b1, b2⟩ := b
  obtain ⟨x, hx, h⟩ := Option.bind_eq_some_iff.1 h
  obtain ⟨y, hy, h⟩ := Option.bind_eq_some_iff.1 h
  cases h
  change floatBits .add .f64 a1 b1 = some x at hx
  change floatBits .add .f64 a2 b2 = some y at hy
  dsimp only
  go_enter Tryz.func297, Tryz.ntmps297
  go_wp2
  go_ret
  exact ⟨rfl, rfl⟩
set_option maxRecDepth 100000 in
set_option maxHeartbeats 400000 in
theorem csub_any (a b c : Co) (h : csubO a b = some c) (w : World) : Calls Tryz.prog 224 #[.complex .f64 a.re a.im, .complex .f64 b.re b.im] w fun e w' => e = .returned (.complex .f64 c.re c.im) ∧ w = w' := by
  obtain ⟨a1, a2⟩ := a
  obtain ⟨b1, b2⟩ := b
  obtain ⟨x, hx, h⟩ := Option.bind_eq_some_iff.1 h
  obtain ⟨y, hy, h⟩ := Option.bind_eq_some_iff.1 h
  cases h
  change floatBits .sub .f64 a1 b1 = some x at hx
  change floatBits .sub .f64 a2 b2 = some y at hy
  dsimp only
  go_enter Tryz.func224, Tryz.ntmps224
  go_wp2
  go_ret
  exact ⟨rfl, rfl⟩
set_option maxRecDepth 100000 in
set_option maxHeartbeats 400000 in
theorem cmul_any (a b c : Co) (h : cmulO a b = some c) (w : World) : Calls Tryz.prog 276 #[.complex .f64 a.re a.im, .complex .f64 b.re b.im] w fun e w' => e = .returned (.complex .f64 c.re c.im) ∧ w = w' := by
  obtain ⟨a1, a2⟩ := a
  obtain ⟨b1, b2⟩ := b
  obtain ⟨p, hp, h⟩ := Option.bind_eq_some_iff.1 h
  obtain ⟨q, hq, h⟩ := Option.bind_eq_some_iff.1 h
  obtain ⟨x, hx, h⟩ := Option.bind_eq_some_iff.1 h
  obtain ⟨r, hr, h⟩ := Option.bind_eq_some_iff.1 h
  obtain ⟨s, hs, h⟩ := Option.bind_eq_some_iff.1 h
  obtain ⟨y, hy, h⟩ := Option.bind_eq_some_iff.1 h
  cases h
  change floatBits .mul .f64 a1 b1 = some p at hp
  change floatBits .mul .f64 a2 b2 = some q at hq
  change floatBits .sub .f64 p q = some x at hx
  change floatBits .mul .f64 a1 b2 = some r at hr
  change floatBits .mul .f64 a2 b1 = some s at hs
  change floatBits .add .f64 r s = some y at hy
  dsimp only
  go_enter Tryz.func276, Tryz.ntmps276
  go_wp2
  go_ret
  exact ⟨rfl, rfl⟩
set_option maxRecDepth 100000 in
set_option maxHeartbeats 400000 in
theorem cneg_any (a : Co) (w : World) : Calls Tryz.prog 226 #[.complex .f64 a.re a.im] w fun e w' => e = .returned (.complex .f64 (cnegN a).re (cnegN a).im) ∧ w = w' := by
  obtain ⟨a1, a2⟩ := a
  dsimp only
  go_enter Tryz.func226, Tryz.ntmps226
  go_wp2
  go_ret
  exact ⟨rfl, rfl⟩
theorem Co.lt {z : Co} (h : z.fin = true) : z.re < 18446744073709551616 ∧ z.im < 18446744073709551616 := ⟨(finB_iff (Co.fin_iff h).1).lt, (finB_iff (Co.fin_iff h).2).lt⟩
set_option maxRecDepth 100000 in
set_option maxHeartbeats 400000 in
theorem sizes_any (z : Co) (h : z.fin = true) (w : World) : Calls Tryz.prog 207 #[.complex .f64 z.re z.im] w fun e w' => e = .returned (.tuple #[.float .f64 (sizesN z).1, .float .f64 (sizesN z).2]) ∧ w = w' := by
  obtain ⟨x, y⟩ := z
  obtain ⟨h1, h2⟩ := Co.lt h
  have C1 := hide (fun W => abs_any x h1 W)
  have C2 := hide (fun W => abs_any y h2 W)
  clear h h1 h2
  obtain ⟨p, hp⟩ : ∃ p, absN x = p := ⟨_, rfl⟩
  obtain ⟨q, hq⟩ : ∃ q, absN y = q := ⟨_, rfl⟩
  have hS : sizesN ⟨x, y⟩ = if FloatKind.f64.format.order p q == some .lt then (q, p) else (p, q) := by
    rw [← hp, ← hq]; rfl
  rw [hS]
  rw [hp] at C1
  rw [hq] at C2
  clear hp hq hS
  dsimp only
  cases hc : (FloatKind.f64.format.order p q == some .lt) <;>
  · go_enter Tryz.func207, Tryz.ntmps207
    go_wp2_with fail
    refine (C1.out _).mono ?_
    rintro e w1 ⟨rfl, rfl⟩
    go_wp2_with fail
    refine (C2.out _).mono ?_
    rintro e w1 ⟨rfl, rfl⟩
    go_wp2_with fail
    go_ret2
    exact ⟨rfl, rfl⟩
set_option maxRecDepth 100000 in
set_option maxHeartbeats 400000 in
theorem chi_any (z : Co) (r : Nat) (h : hiO z = some r) (w : World) : Calls Tryz.prog 141 #[.complex .f64 z.re z.im] w fun e w' => e = .returned (.float .f64 r) ∧ w = w' := by
  unfold hiO at h
  split at h
  · rename_i hf
    split at h
    · rename_i h0
      injection h with h
      have C1 := hide (fun W => kind_any z hf W)
      have C2 := hide (fun W => sizes_any z hf W)
      rw [h] at C2
      obtain ⟨q, hq⟩ : ∃ q, (sizesN z).2 = q := ⟨_, rfl⟩
      rw [hq] at C2 h0
      change (FloatKind.f64.format.order q 0 == some .eq) = true at h0
      obtain ⟨x, y⟩ := z
      clear h hq hf
      dsimp only at C1 C2 ⊢
      go_enter Tryz.func141, Tryz.ntmps141
      go_wp2_with fail
      refine (C1.out _).mono ?_
      rintro e w1 ⟨rfl, rfl⟩
      go_wp2_with fail
      refine (C2.out _).mono ?_
      rintro e w1 ⟨rfl, rfl⟩
      go_wp2_with fail
      go_ret
      exact ⟨rfl, rfl⟩
    · cases h
  · cases h
set_option maxRecDepth 100000 in
set_option maxHeartbeats 400000 in
theorem lostBoth_any (a b : Co) (r : Nat) (h : lostBothO a b = some r) (w : World) : Calls Tryz.prog 225 #[.complex .f64 a.re a.im, .complex .f64 b.re b.im] w fun e w' => e = .returned (.float .f64 r) ∧ w = w' := by
  obtain ⟨a1, a2⟩ := a
  obtain ⟨b1, b2⟩ := b
  obtain ⟨p, hp, h⟩ := Option.bind_eq_some_iff.1 h
  obtain ⟨q, hq, h⟩ := Option.bind_eq_some_iff.1 h
  have C1 := hide (fun W => lost_any _ _ p hp W)
  have C2 := hide (fun W => lost_any _ _ q hq W)
  have C3 := hide (fun W => plus_any _ _ r h W)
  clear h hp hq
  dsimp only at C1 C2 ⊢
  go_enter Tryz.func225, Tryz.ntmps225
  go_wp2_with fail
  refine (C1.out _).mono ?_
  rintro e w1 ⟨rfl, rfl⟩
  go_wp2_with fail
  refine (C2.out _).mono ?_
  rintro e w1 ⟨rfl, rfl⟩
  go_wp2_with fail
  refine (C3.out _).mono ?_
  rintro e w1 ⟨rfl, rfl⟩
  go_wp2_with fail
  go_ret
  exact ⟨rfl, rfl⟩
set_option maxRecDepth 100000 in
set_option maxHeartbeats 400000 in
theorem spoilt_any (a b : Co) (r : Nat) (h : spoiltO a b = some r) (w : World) : Calls Tryz.prog 277 #[.complex .f64 a.re a.im, .complex .f64 b.re b.im] w fun e w' => e = .returned (.float .f64 r) ∧ w = w' := by
  obtain ⟨a1, a2⟩ := a
  obtain ⟨b1, b2⟩ := b
  unfold spoiltO at h
  cases h0 : czero ⟨a1, a2⟩ with
  | true =>
    rw [h0, Bool.true_or, if_pos rfl] at h
    cases h
    change ((FloatKind.f64.format.order a1 0 == some .eq) && (FloatKind.f64.format.order a2 0 == some .eq)) = true at h0
    dsimp only
    go_enter Tryz.func277, Tryz.ntmps277
    go_wp2
    go_ret
    exact ⟨rfl, rfl⟩
  | false =>
    rw [h0, Bool.false_or] at h
    change ((FloatKind.f64.format.order a1 0 == some .eq) && (FloatKind.f64.format.order a2 0 == some .eq)) = false at h0
    cases h1 : czero ⟨b1, b2⟩ with
    | true =>
      rw [h1, if_pos rfl] at h
      cases h
      change ((FloatKind.f64.format.order b1 0 == some .eq) && (FloatKind.f64.format.order b2 0 == some .eq)) = true at h1
      dsimp only
      go_enter Tryz.func277, Tryz.ntmps277
      go_wp2
      go_ret
      exact ⟨rfl, rfl⟩
    | false =>
      rw [h1, if_neg (by decide)] at h
      change ((FloatKind.f64.format.order b1 0 == some .eq) && (FloatKind.f64.format.order b2 0 == some .eq)) = false at h1
      obtain ⟨ac, hac, h⟩ := Option.bind_eq_some_iff.1 h
      obtain ⟨bd, hbd, h⟩ := Option.bind_eq_some_iff.1 h
      obtain ⟨one, hone, h⟩ := Option.bind_eq_some_iff.1 h
      obtain ⟨ad, had, h⟩ := Option.bind_eq_some_iff.1 h
      obtain ⟨bc, hbc, h⟩ := Option.bind_eq_some_iff.1 h
      obtain ⟨two, htwo, h⟩ := Option.bind_eq_some_iff.1 h
      obtain ⟨s, hs, h⟩ := Option.bind_eq_some_iff.1 h
      obtain ⟨t, ht, h⟩ := Option.bind_eq_some_iff.1 h
      change floatBits .mul .f64 a1 b1 = some ac at hac
      change floatBits .mul .f64 a2 b2 = some bd at hbd
      change floatBits .mul .f64 a1 b2 = some ad at had
      change floatBits .mul .f64 a2 b1 = some bc at hbc
      change floatBits .mul .f64 s 4377498837804122112 = some t at ht
      split at h
      · rename_i hf
        have C1 := hide (fun W => abs_any ac (floatBits_lt hac) W)
        have C2 := hide (fun W => abs_any bd (floatBits_lt hbd) W)
        have C3 := hide (fun W => plus_any _ _ one hone W)
        have C4 := hide (fun W => abs_any ad (floatBits_lt had) W)
        have C5 := hide (fun W => abs_any bc (floatBits_lt hbc) W)
        have C6 := hide (fun W => plus_any _ _ two htwo W)
        have C7 := hide (fun W => plus_any _ _ s hs W)
        have C8 := hide (fun W => up_any t hf W)
        have C9 := hide (fun W => plus_any _ _ r h W)
        clear h hf hs htwo hone
        dsimp only
        go_enter Tryz.func277, Tryz.ntmps277
        go_wp2_with fail
        refine (C1.out _).mono ?_
        rintro e w1 ⟨rfl, rfl⟩
        go_wp2_with fail
        refine (C2.out _).mono ?_
        rintro e w1 ⟨rfl, rfl⟩
        go_wp2_with fail
        refine (C3.out _).mono ?_
        rintro e w1 ⟨rfl, rfl⟩
        go_wp2_with fail
        refine (C4.out _).mono ?_
        rintro e w1 ⟨rfl, rfl⟩
        go_wp2_with fail
        refine (C5.out _).mono ?_
        rintro e w1 ⟨rfl, rfl⟩
        go_wp2_with fail
        refine (C6.out _).mono ?_
        rintro e w1 ⟨rfl, rfl⟩
        go_wp2_with fail
        refine (C7.out _).mono ?_
        rintro e w1 ⟨rfl, rfl⟩
        go_wp2_with fail
        refine (C8.out _).mono ?_
        rintro e w1 ⟨rfl, rfl⟩
        go_wp2_with fail
        refine (C9.out _).mono ?_
        rintro e w1 ⟨rfl, rfl⟩
        go_wp2_with fail
        go_ret
        exact ⟨rfl, rfl⟩
      · cases h
end Go.Proofs.YtneakieigiafpaaGreatDoor

/- Balls walked: told, Point, May, IsWhole, Add, Sub, Mul, Hi, Contracts. -/
namespace Go.Proofs.YtneakieigiafpaaGreatDoor
open Go.RowKit
attribute [local go_sem] run_float_arith run_f64bits run_f64from run_neg_float run_store_float run_store_complex

/-- A ball's cells, its value. -/
def Ba.v (b : Ba) : Value := .agg #[.complex .f64 b.c.re b.c.im, .float .f64 b.r]
theorem Ba.ok_iff {b : Ba} (h : b.ok = true) : b.c.fin = true ∧ finB b.r = true ∧ b.r < SG := by
  simpa [Ba.ok, and_assoc] using h
set_option maxRecDepth 100000 in
set_option maxHeartbeats 400000 in
theorem bfinite_any (z : Co) (h : z.fin = true) (w : World) : Calls Tryz.prog 163 #[.complex .f64 z.re z.im] w fun e w' => e = .returned (.bool true) ∧ w = w' := by
  have C1 := hide (fun W => kind_any z h W)
  clear h
  obtain ⟨x, y⟩ := z
  dsimp only at C1 ⊢
  go_enter Tryz.func163, Tryz.ntmps163
  go_wp2_with (go_at_call 85; refine (C1.out _).mono ?_; rintro e w1 ⟨rfl, rfl⟩)
  go_ret
  exact ⟨rfl, rfl⟩
set_option maxRecDepth 100000 in
set_option maxHeartbeats 400000 in
theorem told_any (z : Co) (r : Nat) (h : (z.fin && finB r) = true) (w : World) : Calls Tryz.prog 147 #[.complex .f64 z.re z.im, .float .f64 r] w fun e w' => e = .returned (Ba.v ⟨z, r⟩) ∧ Kept w w' := by
  rw [Bool.and_eq_true] at h
  have C1 := hide (fun W => bfinite_any z h.1 W)
  have C2 := hide (fun W => finite_any r h.2 W)
  clear h
  obtain ⟨x, y⟩ := z
  unfold Ba.v
  dsimp only at C1 ⊢
  go_enter Tryz.func147, Tryz.ntmps147
  go_wp2
  go_step3
  go_wp2_with (first
    | (go_at_call 163; refine (C1.out _).mono ?_; rintro e w1 ⟨rfl, rfl⟩)
    | (go_at_call 164; refine (C2.out _).mono ?_; rintro e w1 ⟨rfl, rfl⟩))
  rw [Exit.noGoto_ret]
  refine bodyPost_ret (v := .agg #[.complex .f64 x y, .float .f64 r]) (by simp [results, Tryz.results147, go_sem]) rfl ⟨rfl, (Below.refl _ w).alloc (Nat.le_refl _) _⟩
set_option maxRecDepth 100000 in
set_option maxHeartbeats 400000 in
theorem point_any (z : Co) (b : Ba) (h : pointO z = some b) (w : World) : Calls Tryz.prog 75 #[.complex .f64 z.re z.im] w fun e w' => e = .returned b.v ∧ Kept w w' := by
  unfold pointO toldO at h
  split at h
  · rename_i hf
    injection h with h
    have C1 := hide (fun W => told_any z 0 hf W)
    rw [h] at C1
    clear h hf
    obtain ⟨x, y⟩ := z
    obtain ⟨⟨p, q⟩, r⟩ := b
    unfold Ba.v at *
    dsimp only at C1 ⊢
    go_enter Tryz.func75, Tryz.ntmps75
    go_wp2_with fail
    refine (C1.out _).mono ?_
    rintro e w1 ⟨rfl, hk1⟩
    have c0 := (hk1.cells w.heap.size 0 (by simp))
    have c1 := (hk1.cells w.heap.size 1 (by simp))
    have f0 := (hk1.thaw w.heap.size 0 (by simp))
    have f1 := (hk1.thaw w.heap.size 1 (by simp))
    simp at c0 c1 f0 f1
    have hz5 := lt_of_cell c0
    have K1 := hide (((Below.refl _ w).alloc (Nat.le_refl _) (.cells #[.complex .f64 0 0, .float .f64 0] 109)).trans (hk1.mono (by simp)))
    clear hk1
    go_wp2_with fail
    refine bodyPost_ret (v := .agg #[.complex .f64 p q, .float .f64 r]) (by simp [results, Tryz.results75, go_sem, c0, c1, hz5]) rfl ⟨rfl, (K1.out.setCell (Nat.le_refl _) _).setCell (Nat.le_refl _) _⟩
  · cases h
set_option maxRecDepth 100000 in
set_option maxHeartbeats 400000 in
theorem signbit_any (x : Nat) (h : x < SG) (w : World) : Calls Tryz.prog 165 #[.float .f64 x] w fun e w' => e = .returned (.bool false) ∧ w = w' := by
  have hW : wrap64 (x : Int) = x := by unfold SG at h; unfold wrap64; omega
  have hD : decide ((x : Int) < 0) = false := by simp
  clear h
  go_enter Tryz.func165, Tryz.ntmps165
  go_wp2
  go_ret
  exact ⟨rfl, rfl⟩
set_option maxRecDepth 100000 in
set_option maxHeartbeats 400000 in
theorem may_any (b : Ba) (h : b.ok = true) (w : World) : Calls Tryz.prog 88 #[b.v] w fun e w' => e = .returned (.bool true) ∧ Kept w w' := by
  obtain ⟨h1, h2, h3⟩ := Ba.ok_iff h
  have C1 := hide (fun W => isinf_any b.r W)
  rw [show posInf b.r = false from (finB_iff h2).inf] at C1
  have C2 := hide (fun W => bfinite_any b.c h1 W)
  have C3 := hide (fun W => finite_any b.r h2 W)
  have C4 := hide (fun W => signbit_any b.r h3 W)
  clear h h1 h2 h3
  obtain ⟨⟨x, y⟩, r⟩ := b
  unfold Ba.v
  dsimp only at C1 C2 C3 C4 ⊢
  go_enter Tryz.func88, Tryz.ntmps88
  go_wp2_with fail
  refine (C1.out _).mono ?_
  rintro e w1 ⟨rfl, rfl⟩
  go_wp2_with fail
  refine (C2.out _).mono ?_
  rintro e w1 ⟨rfl, rfl⟩
  go_wp2_with fail
  refine (C3.out _).mono ?_
  rintro e w1 ⟨rfl, rfl⟩
  go_wp2_with fail
  refine (C4.out _).mono ?_
  rintro e w1 ⟨rfl, rfl⟩
  go_wp2_with fail
  go_ret
  exact ⟨rfl, (Below.refl _ w).alloc (Nat.le_refl _) _⟩
set_option maxRecDepth 100000 in
set_option maxHeartbeats 400000 in
theorem isWhole_any (b : Ba) (h : b.ok = true) (w : World) : Calls Tryz.prog 92 #[b.v] w fun e w' => e = .returned (.bool false) ∧ Kept w w' := by
  have C1 := hide (fun W => isinf_any b.r W)
  rw [show posInf b.r = false from (finB_iff (Ba.ok_iff h).2.1).inf] at C1
  have C2 := hide (fun W => may_any b h W)
  clear h
  obtain ⟨⟨x, y⟩, r⟩ := b
  unfold Ba.v at *
  dsimp only at C1 C2 ⊢
  go_enter Tryz.func92, Tryz.ntmps92
  go_wp2_with fail
  refine (C2.out _).mono ?_
  rintro e w1 ⟨rfl, hk1⟩
  have c1 := (hk1.cells w.heap.size 1 (by simp))
  simp at c1
  have hz5 := lt_of_cell c1
  have K1 := hide (((Below.refl _ w).alloc (Nat.le_refl _) (.cells #[.complex .f64 x y, .float .f64 r] 109)).trans (hk1.mono (by simp)))
  clear hk1
  go_wp2_with fail
  refine (C1.out _).mono ?_
  rintro e w1 ⟨rfl, rfl⟩
  go_wp2_with fail
  go_ret
  exact ⟨rfl, K1.out⟩
theorem told_of {z : Co} {r : Nat} {b : Ba} (h : toldO z r = some b) (w : World) : Calls Tryz.prog 147 #[.complex .f64 z.re z.im, .float .f64 r] w fun e w' => e = .returned b.v ∧ Kept w w' := by
  unfold toldO at h
  split at h
  · rename_i hf
    injection h with h
    subst h
    exact told_any z r hf w
  · cases h
theorem quiet_in {C : World → Prop} {P : Program} {f : FuncId} {args : Array Value} {v : Value} {w : World} (hw : C w) (h : Calls P f args w fun e w' => e = .returned v ∧ w = w') : Calls P f args w fun e w' => e = .returned v ∧ C w' :=
  h.mono (by rintro e w' ⟨rfl, rfl⟩; exact ⟨rfl, hw⟩)
theorem kept_in {C : World → Prop} {P : Program} {f : FuncId} {args : Array Value} {v : Value} {w : World} (h : Calls P f args w fun e w' => e = .returned v ∧ Kept w w') (hC : ∀ w', Kept w w' → C w') : Calls P f args w fun e w' => e = .returned v ∧ C w' :=
  h.mono (by rintro e w' ⟨rfl, hk⟩; exact ⟨rfl, hC _ hk⟩)
theorem kept_drew (w : World) : Kept w w.drew := (Below.refl _ w).drew
/-- Two balls and a third in boxes of their own, from cell n on. -/
structure Box3 (w0 : World) (n : Nat) (a b c : Ba) (W : World) : Prop where
  a0 : W.cell? ⟨n, 0, none⟩ = some (.complex .f64 a.c.re a.c.im)
  a1 : W.cell? ⟨n, 1, none⟩ = some (.float .f64 a.r)
  b0 : W.cell? ⟨n + 1, 0, none⟩ = some (.complex .f64 b.c.re b.c.im)
  b1 : W.cell? ⟨n + 1, 1, none⟩ = some (.float .f64 b.r)
  c0 : W.cell? ⟨n + 2, 0, none⟩ = some (.complex .f64 c.c.re c.c.im)
  c1 : W.cell? ⟨n + 2, 1, none⟩ = some (.float .f64 c.r)
  d0 : W.frozen? ⟨n + 2, 0, none⟩ = false
  d1 : W.frozen? ⟨n + 2, 1, none⟩ = false
  size : n + 2 < W.heap.size
  kept : Below n w0 W
theorem Box3.on {w0 W W' : World} {n : Nat} {a b c : Ba} (h : Box3 w0 n a b c W) (k : Kept W W') : Box3 w0 n a b c W' := by
  have hs := h.size
  refine ⟨?_, ?_, ?_, ?_, ?_, ?_, ?_, ?_, Nat.lt_of_lt_of_le hs k.size, h.kept.trans (k.mono (by omega))⟩
  · rw [k.cells _ _ (by omega)]; exact h.a0
  · rw [k.cells _ _ (by omega)]; exact h.a1
  · rw [k.cells _ _ (by omega)]; exact h.b0
  · rw [k.cells _ _ (by omega)]; exact h.b1
  · rw [k.cells _ _ (by omega)]; exact h.c0
  · rw [k.cells _ _ (by omega)]; exact h.c1
  · rw [k.thaw _ _ (by omega)]; exact h.d0
  · rw [k.thaw _ _ (by omega)]; exact h.d1
theorem Box3.mk3 (w : World) (a b c : Ba) (t : TypeId) : Box3 w w.heap.size a b c (((w.alloc (.cells #[.complex .f64 a.c.re a.c.im, .float .f64 a.r] t)).alloc (.cells #[.complex .f64 b.c.re b.c.im, .float .f64 b.r] t)).alloc (.cells #[.complex .f64 c.c.re c.c.im, .float .f64 c.r] t)) := by
  refine ⟨?_, ?_, ?_, ?_, ?_, ?_, ?_, ?_, ?_, ?_⟩
  · go_simp
  · go_simp
  · go_simp
  · go_simp
  · go_simp
  · go_simp
  · go_simp
  · go_simp
  · go_simp
  · exact (((Below.refl _ w).alloc (Nat.le_refl _) _).alloc (by simp) _).alloc (by simp; omega) _
set_option maxRecDepth 100000 in
set_option maxHeartbeats 1600000 in
theorem badd_any (a b c : Ba) (h : baddO a b = some c) (w : World) : Calls Tryz.prog 295 #[a.v, b.v] w fun e w' => e = .returned c.v ∧ Kept w w' := by
  unfold baddO at h
  split at h
  · rename_i hf
    rw [Bool.and_eq_true] at hf
    obtain ⟨z, hz, g0⟩ := Option.bind_eq_some_iff.1 h
    obtain ⟨x, hx, g1⟩ := Option.bind_eq_some_iff.1 g0
    obtain ⟨y, hy, g2⟩ := Option.bind_eq_some_iff.1 g1
    obtain ⟨r, hr, g3⟩ := Option.bind_eq_some_iff.1 g2
    have C1 := hide (fun W => isWhole_any a hf.1 W)
    have C2 := hide (fun W => isWhole_any b hf.2 W)
    have C3 := hide (fun W => cadd_any a.c b.c z hz W)
    have C4 := hide (fun W => plus_any a.r b.r x hx W)
    have C5 := hide (fun W => lostBoth_any a.c b.c y hy W)
    have C6 := hide (fun W => plus_any x y r hr W)
    have C7 := hide (fun W => told_of g3 W)
    clear h hf g3 hr g2 hy g1 hx g0 hz
    obtain ⟨⟨a1, a2⟩, ar⟩ := a
    obtain ⟨⟨b1, b2⟩, br⟩ := b
    obtain ⟨⟨p, q⟩, t⟩ := c
    obtain ⟨z1, z2⟩ := z
    unfold Ba.v at *
    dsimp only at C1 C2 C3 C4 C5 C6 C7 ⊢
    go_enter Tryz.func295, Tryz.ntmps295
    go_wp2_with fail
    refine (C1.out _).mono ?_
    rintro e w1 ⟨rfl, hk1⟩
    have B1 : Box3 w w.heap.size ⟨⟨a1, a2⟩, ar⟩ ⟨⟨b1, b2⟩, br⟩ ⟨⟨0, 0⟩, 0⟩ w1 := Box3.on (Box3.mk3 w ⟨⟨a1, a2⟩, ar⟩ ⟨⟨b1, b2⟩, br⟩ ⟨⟨0, 0⟩, 0⟩ 109) hk1
    clear hk1
    have e2 := B1.b0
    have e3 := B1.b1
    have e8 := B1.size
    dsimp only at e2 e3
    have HB := hide B1
    clear B1
    go_wp2_with fail
    refine (C2.out _).mono ?_
    rintro e w2 ⟨rfl, hk2⟩
    have HC := hide (HB.out.on hk2)
    clear hk2 HB e2 e3 e8
    go_wp2_with fail
    refine wp_region_T (Box3 w w.heap.size ⟨⟨a1, a2⟩, ar⟩ ⟨⟨b1, b2⟩, br⟩ ⟨⟨0, 0⟩, 0⟩) 17 (by kernel_rfl) (by kernel_rfl) ?_ ?_
    · exact HC.out.on (kept_drew _)
    dsimp only [List.take]
    refine wpQuiet_take (v := ?_) (some 12) rfl (by kernel_rfl) (fun wr hw => ?_) ?_
    rotate_left
    · (have e0 := hw.a0; have e1 := hw.a1; have e2 := hw.b0; have e3 := hw.b1; have e4 := hw.c0; have e5 := hw.c1; have e6 := hw.d0; have e7 := hw.d1; have e8 := hw.size; dsimp only at e0 e1 e2 e3 e4 e5); go_simp; (try with_reducible rfl)
    try simp only [Act.put, List.setIfInBounds_toArray, List.set_cons_zero, List.set_cons_succ]
    refine wpQuiet_take (v := ?_) (some 13) rfl (by kernel_rfl) (fun wr hw => ?_) ?_
    rotate_left
    · (have e0 := hw.a0; have e1 := hw.a1; have e2 := hw.b0; have e3 := hw.b1; have e4 := hw.c0; have e5 := hw.c1; have e6 := hw.d0; have e7 := hw.d1; have e8 := hw.size; dsimp only at e0 e1 e2 e3 e4 e5); go_simp; (try with_reducible rfl)
    try simp only [Act.put, List.setIfInBounds_toArray, List.set_cons_zero, List.set_cons_succ]
    refine wpQuiet_take (v := ?_) (some 14) rfl (by kernel_rfl) (fun wr hw => ?_) ?_
    rotate_left
    · (have e0 := hw.a0; have e1 := hw.a1; have e2 := hw.b0; have e3 := hw.b1; have e4 := hw.c0; have e5 := hw.c1; have e6 := hw.d0; have e7 := hw.d1; have e8 := hw.size; dsimp only at e0 e1 e2 e3 e4 e5); go_simp; (try with_reducible rfl)
    try simp only [Act.put, List.setIfInBounds_toArray, List.set_cons_zero, List.set_cons_succ]
    refine wpQuiet_take (v := ?_) (some 15) rfl (by kernel_rfl) (fun wr hw => ?_) ?_
    rotate_left
    · (have e0 := hw.a0; have e1 := hw.a1; have e2 := hw.b0; have e3 := hw.b1; have e4 := hw.c0; have e5 := hw.c1; have e6 := hw.d0; have e7 := hw.d1; have e8 := hw.size; dsimp only at e0 e1 e2 e3 e4 e5); go_simp; (try with_reducible rfl)
    try simp only [Act.put, List.setIfInBounds_toArray, List.set_cons_zero, List.set_cons_succ]
    refine wpQuiet_call (v := ?_) (f := ?_) (args := ?_) (some 16) rfl (by kernel_rfl) (fun wr hw => ?_) (fun wr hw => ?_) ?_
    rotate_left 3
    · (have e0 := hw.a0; have e1 := hw.a1; have e2 := hw.b0; have e3 := hw.b1; have e4 := hw.c0; have e5 := hw.c1; have e6 := hw.d0; have e7 := hw.d1; have e8 := hw.size; dsimp only at e0 e1 e2 e3 e4 e5); go_simp; refine ⟨?_, ?_⟩ <;> with_reducible rfl
    · refine (C3.out wr).mono ?_; rintro e w' ⟨rfl, rfl⟩; refine ⟨?_, hw⟩; with_reducible rfl
    try simp only [Act.put, List.setIfInBounds_toArray, List.set_cons_zero, List.set_cons_succ]
    refine wpQuiet_take (v := ?_) (some 17) rfl (by kernel_rfl) (fun wr hw => ?_) ?_
    rotate_left
    · (have e0 := hw.a0; have e1 := hw.a1; have e2 := hw.b0; have e3 := hw.b1; have e4 := hw.c0; have e5 := hw.c1; have e6 := hw.d0; have e7 := hw.d1; have e8 := hw.size; dsimp only at e0 e1 e2 e3 e4 e5); go_simp; (try with_reducible rfl)
    try simp only [Act.put, List.setIfInBounds_toArray, List.set_cons_zero, List.set_cons_succ]
    refine wpQuiet_take (v := ?_) (some 18) rfl (by kernel_rfl) (fun wr hw => ?_) ?_
    rotate_left
    · (have e0 := hw.a0; have e1 := hw.a1; have e2 := hw.b0; have e3 := hw.b1; have e4 := hw.c0; have e5 := hw.c1; have e6 := hw.d0; have e7 := hw.d1; have e8 := hw.size; dsimp only at e0 e1 e2 e3 e4 e5); go_simp; (try with_reducible rfl)
    try simp only [Act.put, List.setIfInBounds_toArray, List.set_cons_zero, List.set_cons_succ]
    refine wpQuiet_take (v := ?_) (some 19) rfl (by kernel_rfl) (fun wr hw => ?_) ?_
    rotate_left
    · (have e0 := hw.a0; have e1 := hw.a1; have e2 := hw.b0; have e3 := hw.b1; have e4 := hw.c0; have e5 := hw.c1; have e6 := hw.d0; have e7 := hw.d1; have e8 := hw.size; dsimp only at e0 e1 e2 e3 e4 e5); go_simp; (try with_reducible rfl)
    try simp only [Act.put, List.setIfInBounds_toArray, List.set_cons_zero, List.set_cons_succ]
    refine wpQuiet_take (v := ?_) (some 20) rfl (by kernel_rfl) (fun wr hw => ?_) ?_
    rotate_left
    · (have e0 := hw.a0; have e1 := hw.a1; have e2 := hw.b0; have e3 := hw.b1; have e4 := hw.c0; have e5 := hw.c1; have e6 := hw.d0; have e7 := hw.d1; have e8 := hw.size; dsimp only at e0 e1 e2 e3 e4 e5); go_simp; (try with_reducible rfl)
    try simp only [Act.put, List.setIfInBounds_toArray, List.set_cons_zero, List.set_cons_succ]
    refine wpQuiet_call (v := ?_) (f := ?_) (args := ?_) (some 21) rfl (by kernel_rfl) (fun wr hw => ?_) (fun wr hw => ?_) ?_
    rotate_left 3
    · (have e0 := hw.a0; have e1 := hw.a1; have e2 := hw.b0; have e3 := hw.b1; have e4 := hw.c0; have e5 := hw.c1; have e6 := hw.d0; have e7 := hw.d1; have e8 := hw.size; dsimp only at e0 e1 e2 e3 e4 e5); go_simp; refine ⟨?_, ?_⟩ <;> with_reducible rfl
    · refine (C4.out wr).mono ?_; rintro e w' ⟨rfl, rfl⟩; refine ⟨?_, hw⟩; with_reducible rfl
    try simp only [Act.put, List.setIfInBounds_toArray, List.set_cons_zero, List.set_cons_succ]
    refine wpQuiet_take (v := ?_) (some 22) rfl (by kernel_rfl) (fun wr hw => ?_) ?_
    rotate_left
    · (have e0 := hw.a0; have e1 := hw.a1; have e2 := hw.b0; have e3 := hw.b1; have e4 := hw.c0; have e5 := hw.c1; have e6 := hw.d0; have e7 := hw.d1; have e8 := hw.size; dsimp only at e0 e1 e2 e3 e4 e5); go_simp; (try with_reducible rfl)
    try simp only [Act.put, List.setIfInBounds_toArray, List.set_cons_zero, List.set_cons_succ]
    refine wpQuiet_take (v := ?_) (some 23) rfl (by kernel_rfl) (fun wr hw => ?_) ?_
    rotate_left
    · (have e0 := hw.a0; have e1 := hw.a1; have e2 := hw.b0; have e3 := hw.b1; have e4 := hw.c0; have e5 := hw.c1; have e6 := hw.d0; have e7 := hw.d1; have e8 := hw.size; dsimp only at e0 e1 e2 e3 e4 e5); go_simp; (try with_reducible rfl)
    try simp only [Act.put, List.setIfInBounds_toArray, List.set_cons_zero, List.set_cons_succ]
    refine wpQuiet_take (v := ?_) (some 24) rfl (by kernel_rfl) (fun wr hw => ?_) ?_
    rotate_left
    · (have e0 := hw.a0; have e1 := hw.a1; have e2 := hw.b0; have e3 := hw.b1; have e4 := hw.c0; have e5 := hw.c1; have e6 := hw.d0; have e7 := hw.d1; have e8 := hw.size; dsimp only at e0 e1 e2 e3 e4 e5); go_simp; (try with_reducible rfl)
    try simp only [Act.put, List.setIfInBounds_toArray, List.set_cons_zero, List.set_cons_succ]
    refine wpQuiet_take (v := ?_) (some 25) rfl (by kernel_rfl) (fun wr hw => ?_) ?_
    rotate_left
    · (have e0 := hw.a0; have e1 := hw.a1; have e2 := hw.b0; have e3 := hw.b1; have e4 := hw.c0; have e5 := hw.c1; have e6 := hw.d0; have e7 := hw.d1; have e8 := hw.size; dsimp only at e0 e1 e2 e3 e4 e5); go_simp; (try with_reducible rfl)
    try simp only [Act.put, List.setIfInBounds_toArray, List.set_cons_zero, List.set_cons_succ]
    refine wpQuiet_call (v := ?_) (f := ?_) (args := ?_) (some 26) rfl (by kernel_rfl) (fun wr hw => ?_) (fun wr hw => ?_) ?_
    rotate_left 3
    · (have e0 := hw.a0; have e1 := hw.a1; have e2 := hw.b0; have e3 := hw.b1; have e4 := hw.c0; have e5 := hw.c1; have e6 := hw.d0; have e7 := hw.d1; have e8 := hw.size; dsimp only at e0 e1 e2 e3 e4 e5); go_simp; refine ⟨?_, ?_⟩ <;> with_reducible rfl
    · refine (C5.out wr).mono ?_; rintro e w' ⟨rfl, rfl⟩; refine ⟨?_, hw⟩; with_reducible rfl
    try simp only [Act.put, List.setIfInBounds_toArray, List.set_cons_zero, List.set_cons_succ]
    refine wpQuiet_call (v := ?_) (f := ?_) (args := ?_) (some 27) rfl (by kernel_rfl) (fun wr hw => ?_) (fun wr hw => ?_) ?_
    rotate_left 3
    · (have e0 := hw.a0; have e1 := hw.a1; have e2 := hw.b0; have e3 := hw.b1; have e4 := hw.c0; have e5 := hw.c1; have e6 := hw.d0; have e7 := hw.d1; have e8 := hw.size; dsimp only at e0 e1 e2 e3 e4 e5); go_simp; refine ⟨?_, ?_⟩ <;> with_reducible rfl
    · refine (C6.out wr).mono ?_; rintro e w' ⟨rfl, rfl⟩; refine ⟨?_, hw⟩; with_reducible rfl
    try simp only [Act.put, List.setIfInBounds_toArray, List.set_cons_zero, List.set_cons_succ]
    refine wpQuiet_call (v := ?_) (f := ?_) (args := ?_) (some 28) rfl (by kernel_rfl) (fun wr hw => ?_) (fun wr hw => ?_) ?_
    rotate_left 3
    · (have e0 := hw.a0; have e1 := hw.a1; have e2 := hw.b0; have e3 := hw.b1; have e4 := hw.c0; have e5 := hw.c1; have e6 := hw.d0; have e7 := hw.d1; have e8 := hw.size; dsimp only at e0 e1 e2 e3 e4 e5); go_simp; refine ⟨?_, ?_⟩ <;> with_reducible rfl
    · refine (C7.out wr).mono ?_; rintro e w' ⟨rfl, hk⟩; refine ⟨?_, hw.on hk⟩; with_reducible rfl
    try simp only [Act.put, List.setIfInBounds_toArray, List.set_cons_zero, List.set_cons_succ]
    refine wpQuiet_nil ?_
    intro wq hq
    refine wpOp_last rfl (fun K hK => ?_)
    (have e0 := hq.a0; have e1 := hq.a1; have e2 := hq.b0; have e3 := hq.b1; have e4 := hq.c0; have e5 := hq.c1; have e6 := hq.d0; have e7 := hq.d1; have e8 := hq.size; dsimp only at e0 e1 e2 e3 e4 e5)
    go_simp
    refine hK.out _ _ ?_
    clear hK K
    try simp only [Act.put, List.setIfInBounds_toArray, List.set_cons_zero, List.set_cons_succ]
    go_wp2_with fail
    refine bodyPost_ret (v := .agg #[.complex .f64 p q, .float .f64 t]) (by simp [results, Tryz.results295, go_sem, e4, e5, e8]) rfl ⟨rfl, (hq.kept.setCell ?_ _).setCell ?_ _⟩
    · dsimp only; omega
    · dsimp only; omega
  · cases h
set_option maxRecDepth 100000 in
set_option maxHeartbeats 1600000 in
theorem bsub_any (a b c : Ba) (h : bsubO a b = some c) (w : World) : Calls Tryz.prog 169 #[a.v, b.v] w fun e w' => e = .returned c.v ∧ Kept w w' := by
  unfold bsubO at h
  split at h
  · rename_i hf
    rw [Bool.and_eq_true] at hf
    obtain ⟨z, hz, g0⟩ := Option.bind_eq_some_iff.1 h
    obtain ⟨x, hx, g1⟩ := Option.bind_eq_some_iff.1 g0
    obtain ⟨y, hy, g2⟩ := Option.bind_eq_some_iff.1 g1
    obtain ⟨r, hr, g3⟩ := Option.bind_eq_some_iff.1 g2
    have C1 := hide (fun W => isWhole_any a hf.1 W)
    have C2 := hide (fun W => isWhole_any b hf.2 W)
    have C3 := hide (fun W => csub_any a.c b.c z hz W)
    have C4 := hide (fun W => plus_any a.r b.r x hx W)
    have C5 := hide (fun W => cneg_any b.c W)
    have C6 := hide (fun W => lostBoth_any a.c (cnegN b.c) y hy W)
    have C7 := hide (fun W => plus_any x y r hr W)
    have C8 := hide (fun W => told_of g3 W)
    clear h hf g3 hr g2 hy g1 hx g0 hz
    obtain ⟨⟨a1, a2⟩, ar⟩ := a
    obtain ⟨⟨b1, b2⟩, br⟩ := b
    obtain ⟨⟨p, q⟩, t⟩ := c
    obtain ⟨z1, z2⟩ := z
    unfold Ba.v at *
    dsimp only at C1 C2 C3 C4 C5 C6 C7 C8 ⊢
    go_enter Tryz.func169, Tryz.ntmps169
    go_wp2_with fail
    refine (C1.out _).mono ?_
    rintro e w1 ⟨rfl, hk1⟩
    have B1 : Box3 w w.heap.size ⟨⟨a1, a2⟩, ar⟩ ⟨⟨b1, b2⟩, br⟩ ⟨⟨0, 0⟩, 0⟩ w1 := Box3.on (Box3.mk3 w ⟨⟨a1, a2⟩, ar⟩ ⟨⟨b1, b2⟩, br⟩ ⟨⟨0, 0⟩, 0⟩ 109) hk1
    clear hk1
    have e2 := B1.b0
    have e3 := B1.b1
    have e8 := B1.size
    dsimp only at e2 e3
    have HB := hide B1
    clear B1
    go_wp2_with fail
    refine (C2.out _).mono ?_
    rintro e w2 ⟨rfl, hk2⟩
    have HC := hide (HB.out.on hk2)
    clear hk2 HB e2 e3 e8
    go_wp2_with fail
    refine wp_region_T (Box3 w w.heap.size ⟨⟨a1, a2⟩, ar⟩ ⟨⟨b1, b2⟩, br⟩ ⟨⟨0, 0⟩, 0⟩) 18 (by kernel_rfl) (by kernel_rfl) ?_ ?_
    · exact HC.out.on (kept_drew _)
    dsimp only [List.take]
    refine wpQuiet_take (v := ?_) (some 12) rfl (by kernel_rfl) (fun wr hw => ?_) ?_
    rotate_left
    · (have e0 := hw.a0; have e1 := hw.a1; have e2 := hw.b0; have e3 := hw.b1; have e4 := hw.c0; have e5 := hw.c1; have e6 := hw.d0; have e7 := hw.d1; have e8 := hw.size; dsimp only at e0 e1 e2 e3 e4 e5); go_simp; (try with_reducible rfl)
    try simp only [Act.put, List.setIfInBounds_toArray, List.set_cons_zero, List.set_cons_succ]
    refine wpQuiet_take (v := ?_) (some 13) rfl (by kernel_rfl) (fun wr hw => ?_) ?_
    rotate_left
    · (have e0 := hw.a0; have e1 := hw.a1; have e2 := hw.b0; have e3 := hw.b1; have e4 := hw.c0; have e5 := hw.c1; have e6 := hw.d0; have e7 := hw.d1; have e8 := hw.size; dsimp only at e0 e1 e2 e3 e4 e5); go_simp; (try with_reducible rfl)
    try simp only [Act.put, List.setIfInBounds_toArray, List.set_cons_zero, List.set_cons_succ]
    refine wpQuiet_take (v := ?_) (some 14) rfl (by kernel_rfl) (fun wr hw => ?_) ?_
    rotate_left
    · (have e0 := hw.a0; have e1 := hw.a1; have e2 := hw.b0; have e3 := hw.b1; have e4 := hw.c0; have e5 := hw.c1; have e6 := hw.d0; have e7 := hw.d1; have e8 := hw.size; dsimp only at e0 e1 e2 e3 e4 e5); go_simp; (try with_reducible rfl)
    try simp only [Act.put, List.setIfInBounds_toArray, List.set_cons_zero, List.set_cons_succ]
    refine wpQuiet_take (v := ?_) (some 15) rfl (by kernel_rfl) (fun wr hw => ?_) ?_
    rotate_left
    · (have e0 := hw.a0; have e1 := hw.a1; have e2 := hw.b0; have e3 := hw.b1; have e4 := hw.c0; have e5 := hw.c1; have e6 := hw.d0; have e7 := hw.d1; have e8 := hw.size; dsimp only at e0 e1 e2 e3 e4 e5); go_simp; (try with_reducible rfl)
    try simp only [Act.put, List.setIfInBounds_toArray, List.set_cons_zero, List.set_cons_succ]
    refine wpQuiet_call (v := ?_) (f := ?_) (args := ?_) (some 16) rfl (by kernel_rfl) (fun wr hw => ?_) (fun wr hw => ?_) ?_
    rotate_left 3
    · (have e0 := hw.a0; have e1 := hw.a1; have e2 := hw.b0; have e3 := hw.b1; have e4 := hw.c0; have e5 := hw.c1; have e6 := hw.d0; have e7 := hw.d1; have e8 := hw.size; dsimp only at e0 e1 e2 e3 e4 e5); go_simp; refine ⟨?_, ?_⟩ <;> with_reducible rfl
    · refine (C3.out wr).mono ?_; rintro e w' ⟨rfl, rfl⟩; refine ⟨?_, hw⟩; with_reducible rfl
    try simp only [Act.put, List.setIfInBounds_toArray, List.set_cons_zero, List.set_cons_succ]
    refine wpQuiet_take (v := ?_) (some 17) rfl (by kernel_rfl) (fun wr hw => ?_) ?_
    rotate_left
    · (have e0 := hw.a0; have e1 := hw.a1; have e2 := hw.b0; have e3 := hw.b1; have e4 := hw.c0; have e5 := hw.c1; have e6 := hw.d0; have e7 := hw.d1; have e8 := hw.size; dsimp only at e0 e1 e2 e3 e4 e5); go_simp; (try with_reducible rfl)
    try simp only [Act.put, List.setIfInBounds_toArray, List.set_cons_zero, List.set_cons_succ]
    refine wpQuiet_take (v := ?_) (some 18) rfl (by kernel_rfl) (fun wr hw => ?_) ?_
    rotate_left
    · (have e0 := hw.a0; have e1 := hw.a1; have e2 := hw.b0; have e3 := hw.b1; have e4 := hw.c0; have e5 := hw.c1; have e6 := hw.d0; have e7 := hw.d1; have e8 := hw.size; dsimp only at e0 e1 e2 e3 e4 e5); go_simp; (try with_reducible rfl)
    try simp only [Act.put, List.setIfInBounds_toArray, List.set_cons_zero, List.set_cons_succ]
    refine wpQuiet_take (v := ?_) (some 19) rfl (by kernel_rfl) (fun wr hw => ?_) ?_
    rotate_left
    · (have e0 := hw.a0; have e1 := hw.a1; have e2 := hw.b0; have e3 := hw.b1; have e4 := hw.c0; have e5 := hw.c1; have e6 := hw.d0; have e7 := hw.d1; have e8 := hw.size; dsimp only at e0 e1 e2 e3 e4 e5); go_simp; (try with_reducible rfl)
    try simp only [Act.put, List.setIfInBounds_toArray, List.set_cons_zero, List.set_cons_succ]
    refine wpQuiet_take (v := ?_) (some 20) rfl (by kernel_rfl) (fun wr hw => ?_) ?_
    rotate_left
    · (have e0 := hw.a0; have e1 := hw.a1; have e2 := hw.b0; have e3 := hw.b1; have e4 := hw.c0; have e5 := hw.c1; have e6 := hw.d0; have e7 := hw.d1; have e8 := hw.size; dsimp only at e0 e1 e2 e3 e4 e5); go_simp; (try with_reducible rfl)
    try simp only [Act.put, List.setIfInBounds_toArray, List.set_cons_zero, List.set_cons_succ]
    refine wpQuiet_call (v := ?_) (f := ?_) (args := ?_) (some 21) rfl (by kernel_rfl) (fun wr hw => ?_) (fun wr hw => ?_) ?_
    rotate_left 3
    · (have e0 := hw.a0; have e1 := hw.a1; have e2 := hw.b0; have e3 := hw.b1; have e4 := hw.c0; have e5 := hw.c1; have e6 := hw.d0; have e7 := hw.d1; have e8 := hw.size; dsimp only at e0 e1 e2 e3 e4 e5); go_simp; refine ⟨?_, ?_⟩ <;> with_reducible rfl
    · refine (C4.out wr).mono ?_; rintro e w' ⟨rfl, rfl⟩; refine ⟨?_, hw⟩; with_reducible rfl
    try simp only [Act.put, List.setIfInBounds_toArray, List.set_cons_zero, List.set_cons_succ]
    refine wpQuiet_take (v := ?_) (some 22) rfl (by kernel_rfl) (fun wr hw => ?_) ?_
    rotate_left
    · (have e0 := hw.a0; have e1 := hw.a1; have e2 := hw.b0; have e3 := hw.b1; have e4 := hw.c0; have e5 := hw.c1; have e6 := hw.d0; have e7 := hw.d1; have e8 := hw.size; dsimp only at e0 e1 e2 e3 e4 e5); go_simp; (try with_reducible rfl)
    try simp only [Act.put, List.setIfInBounds_toArray, List.set_cons_zero, List.set_cons_succ]
    refine wpQuiet_take (v := ?_) (some 23) rfl (by kernel_rfl) (fun wr hw => ?_) ?_
    rotate_left
    · (have e0 := hw.a0; have e1 := hw.a1; have e2 := hw.b0; have e3 := hw.b1; have e4 := hw.c0; have e5 := hw.c1; have e6 := hw.d0; have e7 := hw.d1; have e8 := hw.size; dsimp only at e0 e1 e2 e3 e4 e5); go_simp; (try with_reducible rfl)
    try simp only [Act.put, List.setIfInBounds_toArray, List.set_cons_zero, List.set_cons_succ]
    refine wpQuiet_take (v := ?_) (some 24) rfl (by kernel_rfl) (fun wr hw => ?_) ?_
    rotate_left
    · (have e0 := hw.a0; have e1 := hw.a1; have e2 := hw.b0; have e3 := hw.b1; have e4 := hw.c0; have e5 := hw.c1; have e6 := hw.d0; have e7 := hw.d1; have e8 := hw.size; dsimp only at e0 e1 e2 e3 e4 e5); go_simp; (try with_reducible rfl)
    try simp only [Act.put, List.setIfInBounds_toArray, List.set_cons_zero, List.set_cons_succ]
    refine wpQuiet_take (v := ?_) (some 25) rfl (by kernel_rfl) (fun wr hw => ?_) ?_
    rotate_left
    · (have e0 := hw.a0; have e1 := hw.a1; have e2 := hw.b0; have e3 := hw.b1; have e4 := hw.c0; have e5 := hw.c1; have e6 := hw.d0; have e7 := hw.d1; have e8 := hw.size; dsimp only at e0 e1 e2 e3 e4 e5); go_simp; (try with_reducible rfl)
    try simp only [Act.put, List.setIfInBounds_toArray, List.set_cons_zero, List.set_cons_succ]
    refine wpQuiet_call (v := ?_) (f := ?_) (args := ?_) (some 26) rfl (by kernel_rfl) (fun wr hw => ?_) (fun wr hw => ?_) ?_
    rotate_left 3
    · (have e0 := hw.a0; have e1 := hw.a1; have e2 := hw.b0; have e3 := hw.b1; have e4 := hw.c0; have e5 := hw.c1; have e6 := hw.d0; have e7 := hw.d1; have e8 := hw.size; dsimp only at e0 e1 e2 e3 e4 e5); go_simp; refine ⟨?_, ?_⟩ <;> with_reducible rfl
    · refine (C5.out wr).mono ?_; rintro e w' ⟨rfl, rfl⟩; refine ⟨?_, hw⟩; with_reducible rfl
    try simp only [Act.put, List.setIfInBounds_toArray, List.set_cons_zero, List.set_cons_succ]
    refine wpQuiet_call (v := ?_) (f := ?_) (args := ?_) (some 27) rfl (by kernel_rfl) (fun wr hw => ?_) (fun wr hw => ?_) ?_
    rotate_left 3
    · (have e0 := hw.a0; have e1 := hw.a1; have e2 := hw.b0; have e3 := hw.b1; have e4 := hw.c0; have e5 := hw.c1; have e6 := hw.d0; have e7 := hw.d1; have e8 := hw.size; dsimp only at e0 e1 e2 e3 e4 e5); go_simp; refine ⟨?_, ?_⟩ <;> with_reducible rfl
    · refine (C6.out wr).mono ?_; rintro e w' ⟨rfl, rfl⟩; refine ⟨?_, hw⟩; with_reducible rfl
    try simp only [Act.put, List.setIfInBounds_toArray, List.set_cons_zero, List.set_cons_succ]
    refine wpQuiet_call (v := ?_) (f := ?_) (args := ?_) (some 28) rfl (by kernel_rfl) (fun wr hw => ?_) (fun wr hw => ?_) ?_
    rotate_left 3
    · (have e0 := hw.a0; have e1 := hw.a1; have e2 := hw.b0; have e3 := hw.b1; have e4 := hw.c0; have e5 := hw.c1; have e6 := hw.d0; have e7 := hw.d1; have e8 := hw.size; dsimp only at e0 e1 e2 e3 e4 e5); go_simp; refine ⟨?_, ?_⟩ <;> with_reducible rfl
    · refine (C7.out wr).mono ?_; rintro e w' ⟨rfl, rfl⟩; refine ⟨?_, hw⟩; with_reducible rfl
    try simp only [Act.put, List.setIfInBounds_toArray, List.set_cons_zero, List.set_cons_succ]
    refine wpQuiet_call (v := ?_) (f := ?_) (args := ?_) (some 29) rfl (by kernel_rfl) (fun wr hw => ?_) (fun wr hw => ?_) ?_
    rotate_left 3
    · (have e0 := hw.a0; have e1 := hw.a1; have e2 := hw.b0; have e3 := hw.b1; have e4 := hw.c0; have e5 := hw.c1; have e6 := hw.d0; have e7 := hw.d1; have e8 := hw.size; dsimp only at e0 e1 e2 e3 e4 e5); go_simp; refine ⟨?_, ?_⟩ <;> with_reducible rfl
    · refine (C8.out wr).mono ?_; rintro e w' ⟨rfl, hk⟩; refine ⟨?_, hw.on hk⟩; with_reducible rfl
    try simp only [Act.put, List.setIfInBounds_toArray, List.set_cons_zero, List.set_cons_succ]
    refine wpQuiet_nil ?_
    intro wq hq
    refine wpOp_last rfl (fun K hK => ?_)
    (have e0 := hq.a0; have e1 := hq.a1; have e2 := hq.b0; have e3 := hq.b1; have e4 := hq.c0; have e5 := hq.c1; have e6 := hq.d0; have e7 := hq.d1; have e8 := hq.size; dsimp only at e0 e1 e2 e3 e4 e5)
    go_simp
    refine hK.out _ _ ?_
    clear hK K
    try simp only [Act.put, List.setIfInBounds_toArray, List.set_cons_zero, List.set_cons_succ]
    go_wp2_with fail
    refine bodyPost_ret (v := .agg #[.complex .f64 p q, .float .f64 t]) (by simp [results, Tryz.results169, go_sem, e4, e5, e8]) rfl ⟨rfl, (hq.kept.setCell ?_ _).setCell ?_ _⟩
    · dsimp only; omega
    · dsimp only; omega
  · cases h
set_option maxRecDepth 100000 in
set_option maxHeartbeats 1600000 in
theorem bmul_any (a b c : Ba) (h : bmulO a b = some c) (w : World) : Calls Tryz.prog 248 #[a.v, b.v] w fun e w' => e = .returned c.v ∧ Kept w w' := by
  unfold bmulO at h
  split at h
  · rename_i hf
    rw [Bool.and_eq_true] at hf
    obtain ⟨h1, hh1, g0⟩ := Option.bind_eq_some_iff.1 h
    obtain ⟨k1, hk1, g1⟩ := Option.bind_eq_some_iff.1 g0
    obtain ⟨x, hx, g2⟩ := Option.bind_eq_some_iff.1 g1
    obtain ⟨y, hy, g3⟩ := Option.bind_eq_some_iff.1 g2
    obtain ⟨one, hone, g4⟩ := Option.bind_eq_some_iff.1 g3
    obtain ⟨z, hz, g5⟩ := Option.bind_eq_some_iff.1 g4
    obtain ⟨t1, ht1, g6⟩ := Option.bind_eq_some_iff.1 g5
    obtain ⟨s1, hs1, g7⟩ := Option.bind_eq_some_iff.1 g6
    obtain ⟨u, hu, g8⟩ := Option.bind_eq_some_iff.1 g7
    obtain ⟨r, hr, g9⟩ := Option.bind_eq_some_iff.1 g8
    have C1 := hide (fun W => isWhole_any a hf.1 W)
    have C2 := hide (fun W => isWhole_any b hf.2 W)
    have C3 := hide (fun W => chi_any a.c h1 hh1 W)
    have C4 := hide (fun W => times_any h1 b.r x hx W)
    have C5 := hide (fun W => chi_any b.c k1 hk1 W)
    have C6 := hide (fun W => times_any k1 a.r y hy W)
    have C7 := hide (fun W => plus_any x y one hone W)
    have C8 := hide (fun W => cmul_any a.c b.c z hz W)
    have C9 := hide (fun W => times_any a.r b.r t1 ht1 W)
    have C10 := hide (fun W => spoilt_any a.c b.c s1 hs1 W)
    have C11 := hide (fun W => plus_any t1 s1 u hu W)
    have C12 := hide (fun W => plus_any one u r hr W)
    have C13 := hide (fun W => told_of g9 W)
    clear h hf g9 hr g8 hu g7 hs1 g6 ht1 g5 hz g4 hone g3 hy g2 hx g1 hk1 g0 hh1
    obtain ⟨⟨a1, a2⟩, ar⟩ := a
    obtain ⟨⟨b1, b2⟩, br⟩ := b
    obtain ⟨⟨p, q⟩, t⟩ := c
    obtain ⟨z1, z2⟩ := z
    unfold Ba.v at *
    dsimp only at C1 C2 C3 C4 C5 C6 C7 C8 C9 C10 C11 C12 C13 ⊢
    go_enter Tryz.func248, Tryz.ntmps248
    go_wp2_with fail
    refine (C1.out _).mono ?_
    rintro e w1 ⟨rfl, hk1⟩
    have B1 : Box3 w w.heap.size ⟨⟨a1, a2⟩, ar⟩ ⟨⟨b1, b2⟩, br⟩ ⟨⟨0, 0⟩, 0⟩ w1 := Box3.on (Box3.mk3 w ⟨⟨a1, a2⟩, ar⟩ ⟨⟨b1, b2⟩, br⟩ ⟨⟨0, 0⟩, 0⟩ 109) hk1
    clear hk1
    have e2 := B1.b0
    have e3 := B1.b1
    have e8 := B1.size
    dsimp only at e2 e3
    have HB := hide B1
    clear B1
    go_wp2_with fail
    refine (C2.out _).mono ?_
    rintro e w2 ⟨rfl, hk2⟩
    have HC := hide (HB.out.on hk2)
    clear hk2 HB e2 e3 e8
    go_wp2_with fail
    refine wp_region_quiet (C := (Box3 w w.heap.size ⟨⟨a1, a2⟩, ar⟩ ⟨⟨b1, b2⟩, br⟩ ⟨⟨0, 0⟩, 0⟩)) (by kernel_rfl) (by kernel_rfl) ?_ ?_
    · exact HC.out.on (kept_drew _)
    dsimp only [List.take]
    refine wpQuiet_take (v := ?_) (some 13) rfl (by kernel_rfl) (fun wr hw => ?_) ?_
    rotate_left
    · (have e0 := hw.a0; have e1 := hw.a1; have e2 := hw.b0; have e3 := hw.b1; have e4 := hw.c0; have e5 := hw.c1; have e6 := hw.d0; have e7 := hw.d1; have e8 := hw.size; dsimp only at e0 e1 e2 e3 e4 e5); go_simp; (try with_reducible rfl)
    try simp only [Act.put, List.setIfInBounds_toArray, List.set_cons_zero, List.set_cons_succ]
    refine wpQuiet_take (v := ?_) (some 14) rfl (by kernel_rfl) (fun wr hw => ?_) ?_
    rotate_left
    · (have e0 := hw.a0; have e1 := hw.a1; have e2 := hw.b0; have e3 := hw.b1; have e4 := hw.c0; have e5 := hw.c1; have e6 := hw.d0; have e7 := hw.d1; have e8 := hw.size; dsimp only at e0 e1 e2 e3 e4 e5); go_simp; (try with_reducible rfl)
    try simp only [Act.put, List.setIfInBounds_toArray, List.set_cons_zero, List.set_cons_succ]
    refine wpQuiet_call (v := ?_) (f := ?_) (args := ?_) (some 15) rfl (by kernel_rfl) (fun wr hw => ?_) (fun wr hw => ?_) ?_
    rotate_left 3
    · (have e0 := hw.a0; have e1 := hw.a1; have e2 := hw.b0; have e3 := hw.b1; have e4 := hw.c0; have e5 := hw.c1; have e6 := hw.d0; have e7 := hw.d1; have e8 := hw.size; dsimp only at e0 e1 e2 e3 e4 e5); go_simp; refine ⟨?_, ?_⟩ <;> with_reducible rfl
    · refine (C3.out wr).mono ?_; rintro e w' ⟨rfl, rfl⟩; refine ⟨?_, hw⟩; with_reducible rfl
    try simp only [Act.put, List.setIfInBounds_toArray, List.set_cons_zero, List.set_cons_succ]
    refine wpQuiet_take (v := ?_) (some 16) rfl (by kernel_rfl) (fun wr hw => ?_) ?_
    rotate_left
    · (have e0 := hw.a0; have e1 := hw.a1; have e2 := hw.b0; have e3 := hw.b1; have e4 := hw.c0; have e5 := hw.c1; have e6 := hw.d0; have e7 := hw.d1; have e8 := hw.size; dsimp only at e0 e1 e2 e3 e4 e5); go_simp; (try with_reducible rfl)
    try simp only [Act.put, List.setIfInBounds_toArray, List.set_cons_zero, List.set_cons_succ]
    refine wpQuiet_take (v := ?_) (some 17) rfl (by kernel_rfl) (fun wr hw => ?_) ?_
    rotate_left
    · (have e0 := hw.a0; have e1 := hw.a1; have e2 := hw.b0; have e3 := hw.b1; have e4 := hw.c0; have e5 := hw.c1; have e6 := hw.d0; have e7 := hw.d1; have e8 := hw.size; dsimp only at e0 e1 e2 e3 e4 e5); go_simp; (try with_reducible rfl)
    try simp only [Act.put, List.setIfInBounds_toArray, List.set_cons_zero, List.set_cons_succ]
    refine wpQuiet_call (v := ?_) (f := ?_) (args := ?_) (some 18) rfl (by kernel_rfl) (fun wr hw => ?_) (fun wr hw => ?_) ?_
    rotate_left 3
    · (have e0 := hw.a0; have e1 := hw.a1; have e2 := hw.b0; have e3 := hw.b1; have e4 := hw.c0; have e5 := hw.c1; have e6 := hw.d0; have e7 := hw.d1; have e8 := hw.size; dsimp only at e0 e1 e2 e3 e4 e5); go_simp; refine ⟨?_, ?_⟩ <;> with_reducible rfl
    · refine (C4.out wr).mono ?_; rintro e w' ⟨rfl, rfl⟩; refine ⟨?_, hw⟩; with_reducible rfl
    try simp only [Act.put, List.setIfInBounds_toArray, List.set_cons_zero, List.set_cons_succ]
    refine wpQuiet_take (v := ?_) (some 19) rfl (by kernel_rfl) (fun wr hw => ?_) ?_
    rotate_left
    · (have e0 := hw.a0; have e1 := hw.a1; have e2 := hw.b0; have e3 := hw.b1; have e4 := hw.c0; have e5 := hw.c1; have e6 := hw.d0; have e7 := hw.d1; have e8 := hw.size; dsimp only at e0 e1 e2 e3 e4 e5); go_simp; (try with_reducible rfl)
    try simp only [Act.put, List.setIfInBounds_toArray, List.set_cons_zero, List.set_cons_succ]
    refine wpQuiet_take (v := ?_) (some 20) rfl (by kernel_rfl) (fun wr hw => ?_) ?_
    rotate_left
    · (have e0 := hw.a0; have e1 := hw.a1; have e2 := hw.b0; have e3 := hw.b1; have e4 := hw.c0; have e5 := hw.c1; have e6 := hw.d0; have e7 := hw.d1; have e8 := hw.size; dsimp only at e0 e1 e2 e3 e4 e5); go_simp; (try with_reducible rfl)
    try simp only [Act.put, List.setIfInBounds_toArray, List.set_cons_zero, List.set_cons_succ]
    refine wpQuiet_call (v := ?_) (f := ?_) (args := ?_) (some 21) rfl (by kernel_rfl) (fun wr hw => ?_) (fun wr hw => ?_) ?_
    rotate_left 3
    · (have e0 := hw.a0; have e1 := hw.a1; have e2 := hw.b0; have e3 := hw.b1; have e4 := hw.c0; have e5 := hw.c1; have e6 := hw.d0; have e7 := hw.d1; have e8 := hw.size; dsimp only at e0 e1 e2 e3 e4 e5); go_simp; refine ⟨?_, ?_⟩ <;> with_reducible rfl
    · refine (C5.out wr).mono ?_; rintro e w' ⟨rfl, rfl⟩; refine ⟨?_, hw⟩; with_reducible rfl
    try simp only [Act.put, List.setIfInBounds_toArray, List.set_cons_zero, List.set_cons_succ]
    refine wpQuiet_take (v := ?_) (some 22) rfl (by kernel_rfl) (fun wr hw => ?_) ?_
    rotate_left
    · (have e0 := hw.a0; have e1 := hw.a1; have e2 := hw.b0; have e3 := hw.b1; have e4 := hw.c0; have e5 := hw.c1; have e6 := hw.d0; have e7 := hw.d1; have e8 := hw.size; dsimp only at e0 e1 e2 e3 e4 e5); go_simp; (try with_reducible rfl)
    try simp only [Act.put, List.setIfInBounds_toArray, List.set_cons_zero, List.set_cons_succ]
    refine wpQuiet_take (v := ?_) (some 23) rfl (by kernel_rfl) (fun wr hw => ?_) ?_
    rotate_left
    · (have e0 := hw.a0; have e1 := hw.a1; have e2 := hw.b0; have e3 := hw.b1; have e4 := hw.c0; have e5 := hw.c1; have e6 := hw.d0; have e7 := hw.d1; have e8 := hw.size; dsimp only at e0 e1 e2 e3 e4 e5); go_simp; (try with_reducible rfl)
    try simp only [Act.put, List.setIfInBounds_toArray, List.set_cons_zero, List.set_cons_succ]
    refine wpQuiet_call (v := ?_) (f := ?_) (args := ?_) (some 24) rfl (by kernel_rfl) (fun wr hw => ?_) (fun wr hw => ?_) ?_
    rotate_left 3
    · (have e0 := hw.a0; have e1 := hw.a1; have e2 := hw.b0; have e3 := hw.b1; have e4 := hw.c0; have e5 := hw.c1; have e6 := hw.d0; have e7 := hw.d1; have e8 := hw.size; dsimp only at e0 e1 e2 e3 e4 e5); go_simp; refine ⟨?_, ?_⟩ <;> with_reducible rfl
    · refine (C6.out wr).mono ?_; rintro e w' ⟨rfl, rfl⟩; refine ⟨?_, hw⟩; with_reducible rfl
    try simp only [Act.put, List.setIfInBounds_toArray, List.set_cons_zero, List.set_cons_succ]
    refine wpQuiet_call (v := ?_) (f := ?_) (args := ?_) (some 25) rfl (by kernel_rfl) (fun wr hw => ?_) (fun wr hw => ?_) ?_
    rotate_left 3
    · (have e0 := hw.a0; have e1 := hw.a1; have e2 := hw.b0; have e3 := hw.b1; have e4 := hw.c0; have e5 := hw.c1; have e6 := hw.d0; have e7 := hw.d1; have e8 := hw.size; dsimp only at e0 e1 e2 e3 e4 e5); go_simp; refine ⟨?_, ?_⟩ <;> with_reducible rfl
    · refine (C7.out wr).mono ?_; rintro e w' ⟨rfl, rfl⟩; refine ⟨?_, hw⟩; with_reducible rfl
    try simp only [Act.put, List.setIfInBounds_toArray, List.set_cons_zero, List.set_cons_succ]
    refine wpQuiet_take (v := ?_) (some 5) rfl (by kernel_rfl) (fun wr hw => ?_) ?_
    rotate_left
    · (have e0 := hw.a0; have e1 := hw.a1; have e2 := hw.b0; have e3 := hw.b1; have e4 := hw.c0; have e5 := hw.c1; have e6 := hw.d0; have e7 := hw.d1; have e8 := hw.size; dsimp only at e0 e1 e2 e3 e4 e5); go_simp; (try with_reducible rfl)
    try simp only [Act.put, List.setIfInBounds_toArray, List.set_cons_zero, List.set_cons_succ]
    refine wpQuiet_nil ?_
    intro wq hq
    have HD := hide hq
    clear HC hq
    go_wp2_with fail
    refine wp_region_T (Box3 w w.heap.size ⟨⟨a1, a2⟩, ar⟩ ⟨⟨b1, b2⟩, br⟩ ⟨⟨0, 0⟩, 0⟩) 19 (by kernel_rfl) (by kernel_rfl) ?_ ?_
    · exact HD.out.on (kept_drew _)
    dsimp only [List.take]
    refine wpQuiet_take (v := ?_) (some 26) rfl (by kernel_rfl) (fun wr hw => ?_) ?_
    rotate_left
    · (have e0 := hw.a0; have e1 := hw.a1; have e2 := hw.b0; have e3 := hw.b1; have e4 := hw.c0; have e5 := hw.c1; have e6 := hw.d0; have e7 := hw.d1; have e8 := hw.size; dsimp only at e0 e1 e2 e3 e4 e5); go_simp; (try with_reducible rfl)
    try simp only [Act.put, List.setIfInBounds_toArray, List.set_cons_zero, List.set_cons_succ]
    refine wpQuiet_take (v := ?_) (some 27) rfl (by kernel_rfl) (fun wr hw => ?_) ?_
    rotate_left
    · (have e0 := hw.a0; have e1 := hw.a1; have e2 := hw.b0; have e3 := hw.b1; have e4 := hw.c0; have e5 := hw.c1; have e6 := hw.d0; have e7 := hw.d1; have e8 := hw.size; dsimp only at e0 e1 e2 e3 e4 e5); go_simp; (try with_reducible rfl)
    try simp only [Act.put, List.setIfInBounds_toArray, List.set_cons_zero, List.set_cons_succ]
    refine wpQuiet_take (v := ?_) (some 28) rfl (by kernel_rfl) (fun wr hw => ?_) ?_
    rotate_left
    · (have e0 := hw.a0; have e1 := hw.a1; have e2 := hw.b0; have e3 := hw.b1; have e4 := hw.c0; have e5 := hw.c1; have e6 := hw.d0; have e7 := hw.d1; have e8 := hw.size; dsimp only at e0 e1 e2 e3 e4 e5); go_simp; (try with_reducible rfl)
    try simp only [Act.put, List.setIfInBounds_toArray, List.set_cons_zero, List.set_cons_succ]
    refine wpQuiet_take (v := ?_) (some 29) rfl (by kernel_rfl) (fun wr hw => ?_) ?_
    rotate_left
    · (have e0 := hw.a0; have e1 := hw.a1; have e2 := hw.b0; have e3 := hw.b1; have e4 := hw.c0; have e5 := hw.c1; have e6 := hw.d0; have e7 := hw.d1; have e8 := hw.size; dsimp only at e0 e1 e2 e3 e4 e5); go_simp; (try with_reducible rfl)
    try simp only [Act.put, List.setIfInBounds_toArray, List.set_cons_zero, List.set_cons_succ]
    refine wpQuiet_call (v := ?_) (f := ?_) (args := ?_) (some 30) rfl (by kernel_rfl) (fun wr hw => ?_) (fun wr hw => ?_) ?_
    rotate_left 3
    · (have e0 := hw.a0; have e1 := hw.a1; have e2 := hw.b0; have e3 := hw.b1; have e4 := hw.c0; have e5 := hw.c1; have e6 := hw.d0; have e7 := hw.d1; have e8 := hw.size; dsimp only at e0 e1 e2 e3 e4 e5); go_simp; refine ⟨?_, ?_⟩ <;> with_reducible rfl
    · refine (C8.out wr).mono ?_; rintro e w' ⟨rfl, rfl⟩; refine ⟨?_, hw⟩; with_reducible rfl
    try simp only [Act.put, List.setIfInBounds_toArray, List.set_cons_zero, List.set_cons_succ]
    refine wpQuiet_take (v := ?_) (some 31) rfl (by kernel_rfl) (fun wr hw => ?_) ?_
    rotate_left
    · (have e0 := hw.a0; have e1 := hw.a1; have e2 := hw.b0; have e3 := hw.b1; have e4 := hw.c0; have e5 := hw.c1; have e6 := hw.d0; have e7 := hw.d1; have e8 := hw.size; dsimp only at e0 e1 e2 e3 e4 e5); go_simp; (try with_reducible rfl)
    try simp only [Act.put, List.setIfInBounds_toArray, List.set_cons_zero, List.set_cons_succ]
    refine wpQuiet_take (v := ?_) (some 32) rfl (by kernel_rfl) (fun wr hw => ?_) ?_
    rotate_left
    · (have e0 := hw.a0; have e1 := hw.a1; have e2 := hw.b0; have e3 := hw.b1; have e4 := hw.c0; have e5 := hw.c1; have e6 := hw.d0; have e7 := hw.d1; have e8 := hw.size; dsimp only at e0 e1 e2 e3 e4 e5); go_simp; (try with_reducible rfl)
    try simp only [Act.put, List.setIfInBounds_toArray, List.set_cons_zero, List.set_cons_succ]
    refine wpQuiet_take (v := ?_) (some 33) rfl (by kernel_rfl) (fun wr hw => ?_) ?_
    rotate_left
    · (have e0 := hw.a0; have e1 := hw.a1; have e2 := hw.b0; have e3 := hw.b1; have e4 := hw.c0; have e5 := hw.c1; have e6 := hw.d0; have e7 := hw.d1; have e8 := hw.size; dsimp only at e0 e1 e2 e3 e4 e5); go_simp; (try with_reducible rfl)
    try simp only [Act.put, List.setIfInBounds_toArray, List.set_cons_zero, List.set_cons_succ]
    refine wpQuiet_take (v := ?_) (some 34) rfl (by kernel_rfl) (fun wr hw => ?_) ?_
    rotate_left
    · (have e0 := hw.a0; have e1 := hw.a1; have e2 := hw.b0; have e3 := hw.b1; have e4 := hw.c0; have e5 := hw.c1; have e6 := hw.d0; have e7 := hw.d1; have e8 := hw.size; dsimp only at e0 e1 e2 e3 e4 e5); go_simp; (try with_reducible rfl)
    try simp only [Act.put, List.setIfInBounds_toArray, List.set_cons_zero, List.set_cons_succ]
    refine wpQuiet_take (v := ?_) (some 35) rfl (by kernel_rfl) (fun wr hw => ?_) ?_
    rotate_left
    · (have e0 := hw.a0; have e1 := hw.a1; have e2 := hw.b0; have e3 := hw.b1; have e4 := hw.c0; have e5 := hw.c1; have e6 := hw.d0; have e7 := hw.d1; have e8 := hw.size; dsimp only at e0 e1 e2 e3 e4 e5); go_simp; (try with_reducible rfl)
    try simp only [Act.put, List.setIfInBounds_toArray, List.set_cons_zero, List.set_cons_succ]
    refine wpQuiet_call (v := ?_) (f := ?_) (args := ?_) (some 36) rfl (by kernel_rfl) (fun wr hw => ?_) (fun wr hw => ?_) ?_
    rotate_left 3
    · (have e0 := hw.a0; have e1 := hw.a1; have e2 := hw.b0; have e3 := hw.b1; have e4 := hw.c0; have e5 := hw.c1; have e6 := hw.d0; have e7 := hw.d1; have e8 := hw.size; dsimp only at e0 e1 e2 e3 e4 e5); go_simp; refine ⟨?_, ?_⟩ <;> with_reducible rfl
    · refine (C9.out wr).mono ?_; rintro e w' ⟨rfl, rfl⟩; refine ⟨?_, hw⟩; with_reducible rfl
    try simp only [Act.put, List.setIfInBounds_toArray, List.set_cons_zero, List.set_cons_succ]
    refine wpQuiet_take (v := ?_) (some 37) rfl (by kernel_rfl) (fun wr hw => ?_) ?_
    rotate_left
    · (have e0 := hw.a0; have e1 := hw.a1; have e2 := hw.b0; have e3 := hw.b1; have e4 := hw.c0; have e5 := hw.c1; have e6 := hw.d0; have e7 := hw.d1; have e8 := hw.size; dsimp only at e0 e1 e2 e3 e4 e5); go_simp; (try with_reducible rfl)
    try simp only [Act.put, List.setIfInBounds_toArray, List.set_cons_zero, List.set_cons_succ]
    refine wpQuiet_take (v := ?_) (some 38) rfl (by kernel_rfl) (fun wr hw => ?_) ?_
    rotate_left
    · (have e0 := hw.a0; have e1 := hw.a1; have e2 := hw.b0; have e3 := hw.b1; have e4 := hw.c0; have e5 := hw.c1; have e6 := hw.d0; have e7 := hw.d1; have e8 := hw.size; dsimp only at e0 e1 e2 e3 e4 e5); go_simp; (try with_reducible rfl)
    try simp only [Act.put, List.setIfInBounds_toArray, List.set_cons_zero, List.set_cons_succ]
    refine wpQuiet_take (v := ?_) (some 39) rfl (by kernel_rfl) (fun wr hw => ?_) ?_
    rotate_left
    · (have e0 := hw.a0; have e1 := hw.a1; have e2 := hw.b0; have e3 := hw.b1; have e4 := hw.c0; have e5 := hw.c1; have e6 := hw.d0; have e7 := hw.d1; have e8 := hw.size; dsimp only at e0 e1 e2 e3 e4 e5); go_simp; (try with_reducible rfl)
    try simp only [Act.put, List.setIfInBounds_toArray, List.set_cons_zero, List.set_cons_succ]
    refine wpQuiet_take (v := ?_) (some 40) rfl (by kernel_rfl) (fun wr hw => ?_) ?_
    rotate_left
    · (have e0 := hw.a0; have e1 := hw.a1; have e2 := hw.b0; have e3 := hw.b1; have e4 := hw.c0; have e5 := hw.c1; have e6 := hw.d0; have e7 := hw.d1; have e8 := hw.size; dsimp only at e0 e1 e2 e3 e4 e5); go_simp; (try with_reducible rfl)
    try simp only [Act.put, List.setIfInBounds_toArray, List.set_cons_zero, List.set_cons_succ]
    refine wpQuiet_call (v := ?_) (f := ?_) (args := ?_) (some 41) rfl (by kernel_rfl) (fun wr hw => ?_) (fun wr hw => ?_) ?_
    rotate_left 3
    · (have e0 := hw.a0; have e1 := hw.a1; have e2 := hw.b0; have e3 := hw.b1; have e4 := hw.c0; have e5 := hw.c1; have e6 := hw.d0; have e7 := hw.d1; have e8 := hw.size; dsimp only at e0 e1 e2 e3 e4 e5); go_simp; refine ⟨?_, ?_⟩ <;> with_reducible rfl
    · refine (C10.out wr).mono ?_; rintro e w' ⟨rfl, rfl⟩; refine ⟨?_, hw⟩; with_reducible rfl
    try simp only [Act.put, List.setIfInBounds_toArray, List.set_cons_zero, List.set_cons_succ]
    refine wpQuiet_call (v := ?_) (f := ?_) (args := ?_) (some 42) rfl (by kernel_rfl) (fun wr hw => ?_) (fun wr hw => ?_) ?_
    rotate_left 3
    · (have e0 := hw.a0; have e1 := hw.a1; have e2 := hw.b0; have e3 := hw.b1; have e4 := hw.c0; have e5 := hw.c1; have e6 := hw.d0; have e7 := hw.d1; have e8 := hw.size; dsimp only at e0 e1 e2 e3 e4 e5); go_simp; refine ⟨?_, ?_⟩ <;> with_reducible rfl
    · refine (C11.out wr).mono ?_; rintro e w' ⟨rfl, rfl⟩; refine ⟨?_, hw⟩; with_reducible rfl
    try simp only [Act.put, List.setIfInBounds_toArray, List.set_cons_zero, List.set_cons_succ]
    refine wpQuiet_call (v := ?_) (f := ?_) (args := ?_) (some 43) rfl (by kernel_rfl) (fun wr hw => ?_) (fun wr hw => ?_) ?_
    rotate_left 3
    · (have e0 := hw.a0; have e1 := hw.a1; have e2 := hw.b0; have e3 := hw.b1; have e4 := hw.c0; have e5 := hw.c1; have e6 := hw.d0; have e7 := hw.d1; have e8 := hw.size; dsimp only at e0 e1 e2 e3 e4 e5); go_simp; refine ⟨?_, ?_⟩ <;> with_reducible rfl
    · refine (C12.out wr).mono ?_; rintro e w' ⟨rfl, rfl⟩; refine ⟨?_, hw⟩; with_reducible rfl
    try simp only [Act.put, List.setIfInBounds_toArray, List.set_cons_zero, List.set_cons_succ]
    refine wpQuiet_call (v := ?_) (f := ?_) (args := ?_) (some 44) rfl (by kernel_rfl) (fun wr hw => ?_) (fun wr hw => ?_) ?_
    rotate_left 3
    · (have e0 := hw.a0; have e1 := hw.a1; have e2 := hw.b0; have e3 := hw.b1; have e4 := hw.c0; have e5 := hw.c1; have e6 := hw.d0; have e7 := hw.d1; have e8 := hw.size; dsimp only at e0 e1 e2 e3 e4 e5); go_simp; refine ⟨?_, ?_⟩ <;> with_reducible rfl
    · refine (C13.out wr).mono ?_; rintro e w' ⟨rfl, hk⟩; refine ⟨?_, hw.on hk⟩; with_reducible rfl
    try simp only [Act.put, List.setIfInBounds_toArray, List.set_cons_zero, List.set_cons_succ]
    refine wpQuiet_nil ?_
    intro wq hq
    refine wpOp_last rfl (fun K hK => ?_)
    (have e0 := hq.a0; have e1 := hq.a1; have e2 := hq.b0; have e3 := hq.b1; have e4 := hq.c0; have e5 := hq.c1; have e6 := hq.d0; have e7 := hq.d1; have e8 := hq.size; dsimp only at e0 e1 e2 e3 e4 e5)
    go_simp
    refine hK.out _ _ ?_
    clear hK K
    try simp only [Act.put, List.setIfInBounds_toArray, List.set_cons_zero, List.set_cons_succ]
    go_wp2_with fail
    refine bodyPost_ret (v := .agg #[.complex .f64 p q, .float .f64 t]) (by simp [results, Tryz.results248, go_sem, e4, e5, e8]) rfl ⟨rfl, (hq.kept.setCell ?_ _).setCell ?_ _⟩
    · dsimp only; omega
    · dsimp only; omega
  · cases h
end Go.Proofs.YtneakieigiafpaaGreatDoor

/- Balls walked: Hi, Contracts. -/
namespace Go.Proofs.YtneakieigiafpaaGreatDoor
open Go.RowKit
attribute [local go_sem] run_float_arith run_f64bits run_f64from run_neg_float run_store_float run_store_complex

/-- A ball in a box of its own. -/
structure Box1 (w0 : World) (n : Nat) (a : Ba) (W : World) : Prop where
  a0 : W.cell? ⟨n, 0, none⟩ = some (.complex .f64 a.c.re a.c.im)
  a1 : W.cell? ⟨n, 1, none⟩ = some (.float .f64 a.r)
  size : n < W.heap.size
  kept : Below n w0 W
theorem Box1.on {w0 W W' : World} {n : Nat} {a : Ba} (h : Box1 w0 n a W) (k : Kept W W') : Box1 w0 n a W' := by
  have hs := h.size
  refine ⟨?_, ?_, Nat.lt_of_lt_of_le hs k.size, h.kept.trans (k.mono (by omega))⟩
  · rw [k.cells _ _ (by omega)]; exact h.a0
  · rw [k.cells _ _ (by omega)]; exact h.a1
theorem Box1.mk1 (w : World) (a : Ba) (t : TypeId) : Box1 w w.heap.size a (w.alloc (.cells #[.complex .f64 a.c.re a.c.im, .float .f64 a.r] t)) := by
  refine ⟨?_, ?_, ?_, ?_⟩
  · go_simp
  · go_simp
  · go_simp
  · exact (Below.refl _ w).alloc (Nat.le_refl _) _
set_option maxRecDepth 100000 in
set_option maxHeartbeats 800000 in
theorem bhi_any (a : Ba) (r : Nat) (h : bhiO a = some r) (w : World) : Calls Tryz.prog 221 #[a.v] w fun e w' => e = .returned (.float .f64 r) ∧ Kept w w' := by
  unfold bhiO at h
  split at h
  · rename_i hf
    obtain ⟨x, hx, g⟩ := Option.bind_eq_some_iff.1 h
    have C1 := hide (fun W => isWhole_any a hf W)
    have C2 := hide (fun W => chi_any a.c x hx W)
    have C3 := hide (fun W => plus_any x a.r r g W)
    clear g hx h hf
    obtain ⟨⟨a1, a2⟩, ar⟩ := a
    unfold Ba.v at *
    dsimp only at C1 C2 C3 ⊢
    go_enter Tryz.func221, Tryz.ntmps221
    go_wp2_with fail
    refine (C1.out _).mono ?_
    rintro e w1 ⟨rfl, hk1⟩
    have HB := hide (Box1.on (Box1.mk1 w ⟨⟨a1, a2⟩, ar⟩ 109) hk1)
    clear hk1
    go_wp2_with fail
    refine wp_region_quiet (C := (Box1 w w.heap.size ⟨⟨a1, a2⟩, ar⟩)) (by kernel_rfl) (by kernel_rfl) ?_ ?_
    · exact HB.out.on (kept_drew _)
    dsimp only [List.take]
    refine wpQuiet_take (v := ?_) (some 6) rfl (by kernel_rfl) (fun wr hw => ?_) ?_
    rotate_left
    · (have e0 := hw.a0; have e1 := hw.a1; dsimp only at e0 e1); go_simp; (try with_reducible rfl)
    try simp only [Act.put, List.setIfInBounds_toArray, List.set_cons_zero, List.set_cons_succ]
    refine wpQuiet_take (v := ?_) (some 7) rfl (by kernel_rfl) (fun wr hw => ?_) ?_
    rotate_left
    · (have e0 := hw.a0; have e1 := hw.a1; dsimp only at e0 e1); go_simp; (try with_reducible rfl)
    try simp only [Act.put, List.setIfInBounds_toArray, List.set_cons_zero, List.set_cons_succ]
    refine wpQuiet_call (v := ?_) (f := ?_) (args := ?_) (some 8) rfl (by kernel_rfl) (fun wr hw => ?_) (fun wr hw => ?_) ?_
    rotate_left 3
    · (have e0 := hw.a0; have e1 := hw.a1; dsimp only at e0 e1); go_simp; refine ⟨?_, ?_⟩ <;> with_reducible rfl
    · refine (C2.out wr).mono ?_; rintro e w' ⟨rfl, rfl⟩; refine ⟨?_, hw⟩; with_reducible rfl
    try simp only [Act.put, List.setIfInBounds_toArray, List.set_cons_zero, List.set_cons_succ]
    refine wpQuiet_take (v := ?_) (some 9) rfl (by kernel_rfl) (fun wr hw => ?_) ?_
    rotate_left
    · (have e0 := hw.a0; have e1 := hw.a1; dsimp only at e0 e1); go_simp; (try with_reducible rfl)
    try simp only [Act.put, List.setIfInBounds_toArray, List.set_cons_zero, List.set_cons_succ]
    refine wpQuiet_take (v := ?_) (some 10) rfl (by kernel_rfl) (fun wr hw => ?_) ?_
    rotate_left
    · (have e0 := hw.a0; have e1 := hw.a1; dsimp only at e0 e1); go_simp; (try with_reducible rfl)
    try simp only [Act.put, List.setIfInBounds_toArray, List.set_cons_zero, List.set_cons_succ]
    refine wpQuiet_call (v := ?_) (f := ?_) (args := ?_) (some 11) rfl (by kernel_rfl) (fun wr hw => ?_) (fun wr hw => ?_) ?_
    rotate_left 3
    · (have e0 := hw.a0; have e1 := hw.a1; dsimp only at e0 e1); go_simp; refine ⟨?_, ?_⟩ <;> with_reducible rfl
    · refine (C3.out wr).mono ?_; rintro e w' ⟨rfl, rfl⟩; refine ⟨?_, hw⟩; with_reducible rfl
    try simp only [Act.put, List.setIfInBounds_toArray, List.set_cons_zero, List.set_cons_succ]
    refine wpQuiet_take (v := ?_) (some 2) rfl (by kernel_rfl) (fun wr hw => ?_) ?_
    rotate_left
    · (have e0 := hw.a0; have e1 := hw.a1; dsimp only at e0 e1); go_simp; (try with_reducible rfl)
    try simp only [Act.put, List.setIfInBounds_toArray, List.set_cons_zero, List.set_cons_succ]
    refine wpQuiet_nil ?_
    intro wq hq
    go_wp2_with fail
    go_ret
    exact ⟨rfl, hq.kept⟩
  · cases h
/-- Two balls in boxes of their own. -/
structure Box2 (w0 : World) (n : Nat) (a b : Ba) (W : World) : Prop where
  a0 : W.cell? ⟨n, 0, none⟩ = some (.complex .f64 a.c.re a.c.im)
  a1 : W.cell? ⟨n, 1, none⟩ = some (.float .f64 a.r)
  b0 : W.cell? ⟨n + 1, 0, none⟩ = some (.complex .f64 b.c.re b.c.im)
  b1 : W.cell? ⟨n + 1, 1, none⟩ = some (.float .f64 b.r)
  size : n + 1 < W.heap.size
  kept : Below n w0 W
theorem Box2.on {w0 W W' : World} {n : Nat} {a b : Ba} (h : Box2 w0 n a b W) (k : Kept W W') : Box2 w0 n a b W' := by
  have hs := h.size
  refine ⟨?_, ?_, ?_, ?_, Nat.lt_of_lt_of_le hs k.size, h.kept.trans (k.mono (by omega))⟩
  · rw [k.cells _ _ (by omega)]; exact h.a0
  · rw [k.cells _ _ (by omega)]; exact h.a1
  · rw [k.cells _ _ (by omega)]; exact h.b0
  · rw [k.cells _ _ (by omega)]; exact h.b1
theorem Box2.mk2 (w : World) (a b : Ba) (t : TypeId) : Box2 w w.heap.size a b ((w.alloc (.cells #[.complex .f64 a.c.re a.c.im, .float .f64 a.r] t)).alloc (.cells #[.complex .f64 b.c.re b.c.im, .float .f64 b.r] t)) := by
  refine ⟨?_, ?_, ?_, ?_, ?_, ?_⟩
  · go_simp
  · go_simp
  · go_simp
  · go_simp
  · go_simp
  · exact ((Below.refl _ w).alloc (Nat.le_refl _) _).alloc (by simp) _
set_option maxRecDepth 100000 in
set_option maxHeartbeats 800000 in
theorem contracts_any (m s : Ba) (r q : Nat) (ok : Bool) (h : contractsO m s r = some (q, ok)) (w : World) : Calls Tryz.prog 168 #[m.v, s.v, .float .f64 r] w fun e w' => e = .returned (.tuple #[.float .f64 q, .bool ok]) ∧ Kept w w' := by
  obtain ⟨y, hy, g⟩ := Option.bind_eq_some_iff.1 h
  have C1 := hide (fun W => bhi_any s y hy W)
  cases hf : finB r with
  | false => rw [hf, Bool.not_false, if_pos rfl] at g; cases g
  | true =>
    rw [hf, Bool.not_true, if_neg (by decide)] at g
    have C2 := hide (fun W => finite_any r hf W)
    clear hy h hf
    cases h0 : (ordN r 0 == some .lt || ordN r 0 == some .eq) with
    | true =>
      rw [h0, Bool.true_or, if_pos rfl] at g
      cases g
      change (FloatKind.f64.format.order r 0 == some .lt || FloatKind.f64.format.order r 0 == some .eq) = true at h0
      obtain ⟨⟨m1, m2⟩, mr⟩ := m
      obtain ⟨⟨s1, s2⟩, sr⟩ := s
      unfold Ba.v at *
      dsimp only at C1 C2 ⊢
      go_enter Tryz.func168, Tryz.ntmps168
      go_wp2_with fail
      refine (C1.out _).mono ?_
      rintro e w1 ⟨rfl, hk1⟩
      have HB := hide (Box2.on (Box2.mk2 w ⟨⟨m1, m2⟩, mr⟩ ⟨⟨s1, s2⟩, sr⟩ 109) hk1)
      clear hk1
      go_wp2_with fail
      refine (C2.out _).mono ?_
      rintro e w1 ⟨rfl, rfl⟩
      go_wp2_with fail
      go_ret2
      exact ⟨rfl, HB.out.kept⟩
    | false =>
      rw [h0, Bool.false_or] at g
      change (FloatKind.f64.format.order r 0 == some .lt || FloatKind.f64.format.order r 0 == some .eq) = false at h0
      cases h1 : (ordN y ONE == some .lt) with
      | false =>
        rw [h1, Bool.not_false, if_pos rfl] at g
        cases g
        change (FloatKind.f64.format.order y 4607182418800017408 == some .lt) = false at h1
        obtain ⟨⟨m1, m2⟩, mr⟩ := m
        obtain ⟨⟨s1, s2⟩, sr⟩ := s
        unfold Ba.v at *
        dsimp only at C1 C2 ⊢
        go_enter Tryz.func168, Tryz.ntmps168
        go_wp2_with fail
        refine (C1.out _).mono ?_
        rintro e w1 ⟨rfl, hk1⟩
        have HB := hide (Box2.on (Box2.mk2 w ⟨⟨m1, m2⟩, mr⟩ ⟨⟨s1, s2⟩, sr⟩ 109) hk1)
        clear hk1
        go_wp2_with fail
        refine (C2.out _).mono ?_
        rintro e w1 ⟨rfl, rfl⟩
        go_wp2_with fail
        go_ret2
        exact ⟨rfl, HB.out.kept⟩
      | true =>
        rw [h1, Bool.not_true, if_neg (by decide)] at g
        change (FloatKind.f64.format.order y 4607182418800017408 == some .lt) = true at h1
        obtain ⟨x, hx, g1⟩ := Option.bind_eq_some_iff.1 g
        obtain ⟨t, ht, g2⟩ := Option.bind_eq_some_iff.1 g1
        obtain ⟨u, hu, g3⟩ := Option.bind_eq_some_iff.1 g2
        have C3 := hide (fun W => bhi_any m x hx W)
        have C4 := hide (fun W => times_any y r t ht W)
        have C5 := hide (fun W => plus_any x t u hu W)
        clear g g1 g2 hx ht hu
        obtain ⟨⟨m1, m2⟩, mr⟩ := m
        obtain ⟨⟨s1, s2⟩, sr⟩ := s
        unfold Ba.v at *
        dsimp only at C1 C2 C3 C4 C5 ⊢
        obtain ⟨v, hv⟩ : ∃ v, (ordN u r == some .gt) = v := ⟨_, rfl⟩
        rw [hv] at g3
        change (FloatKind.f64.format.order u r == some .gt) = v at hv
        go_enter Tryz.func168, Tryz.ntmps168
        go_wp2_with fail
        refine (C1.out _).mono ?_
        rintro e w1 ⟨rfl, hk1⟩
        have HB1 := Box2.on (Box2.mk2 w ⟨⟨m1, m2⟩, mr⟩ ⟨⟨s1, s2⟩, sr⟩ 109) hk1
        have e0 := HB1.a0
        have e1 := HB1.a1
        have e8 := HB1.size
        dsimp only at e0 e1
        have HB := hide HB1
        clear hk1 HB1
        cases v with
        | true =>
          rw [if_pos rfl] at g3
          cases g3
          go_wp2_with fail
          refine (C2.out _).mono ?_
          rintro e w1 ⟨rfl, rfl⟩
          go_wp2_with fail
          refine (C3.out _).mono ?_
          rintro e w2 ⟨rfl, hk2⟩
          have HC := hide (HB.out.on hk2)
          clear hk2 e0 e1 e8 HB
          go_wp2_with fail
          refine (C4.out _).mono ?_
          rintro e w3 ⟨rfl, rfl⟩
          go_wp2_with fail
          refine (C5.out _).mono ?_
          rintro e w3 ⟨rfl, rfl⟩
          go_wp2_with fail
          go_ret2
          exact ⟨rfl, HC.out.kept⟩
        | false =>
          rw [if_neg (by decide)] at g3
          cases g3
          go_wp2_with fail
          refine (C2.out _).mono ?_
          rintro e w1 ⟨rfl, rfl⟩
          go_wp2_with fail
          refine (C3.out _).mono ?_
          rintro e w2 ⟨rfl, hk2⟩
          have HC := hide (HB.out.on hk2)
          clear hk2 e0 e1 e8 HB
          go_wp2_with fail
          refine (C4.out _).mono ?_
          rintro e w3 ⟨rfl, rfl⟩
          go_wp2_with fail
          refine (C5.out _).mono ?_
          rintro e w3 ⟨rfl, rfl⟩
          go_wp2_with fail
          go_ret2
          exact ⟨rfl, HC.out.kept⟩
end Go.Proofs.YtneakieigiafpaaGreatDoor
