/- Complex numbers walked: what a sum loses, kinds, sums, products, magnitudes. -/
import Derived.Test.YtneakieigiafpaaGreatDoorFltW
namespace Go.Proofs.YtneakieigiafpaaGreatDoor
open Go.RowKit
attribute [local go_sem] run_float_arith run_f64bits run_f64from run_neg_float run_store_float run_store_complex

set_option maxRecDepth 100000 in
set_option maxHeartbeats 400000 in
theorem lost_any (x y r : Nat) (h : lostO x y = some r) (w : World) : Calls Tryz.prog 264 #[.float .f64 x, .float .f64 y] w fun e w' => e = .returned (.float .f64 r) ∧ w = w' := by
  obtain ⟨s, hs, h⟩ := Option.bind_eq_some_iff.1 h
  change floatBits .add .f64 x y = some s at hs
  have hsl := floatBits_lt hs
  cases h0 : eq0 x with
  | true =>
    rw [h0, Bool.true_or, Bool.true_or, if_pos rfl] at h
    cases h
    change (FloatKind.f64.format.order x 0 == some .eq) = true at h0
    clear hsl
    go_enter Tryz.func264, Tryz.ntmps264
    go_wp2
    go_ret
    exact ⟨rfl, rfl⟩
  | false =>
    change (FloatKind.f64.format.order x 0 == some .eq) = false at h0
    rw [show eq0 x = false from h0, Bool.false_or] at h
    cases h1 : eq0 y with
    | true =>
      rw [h1, Bool.true_or, if_pos rfl] at h
      cases h
      change (FloatKind.f64.format.order y 0 == some .eq) = true at h1
      clear hsl
      go_enter Tryz.func264, Tryz.ntmps264
      go_wp2
      go_ret
      exact ⟨rfl, rfl⟩
    | false =>
      change (FloatKind.f64.format.order y 0 == some .eq) = false at h1
      rw [show eq0 y = false from h1, Bool.false_or] at h
      cases h2 : eq0 s with
      | true =>
        rw [h2, if_pos rfl] at h
        cases h
        change (FloatKind.f64.format.order s 0 == some .eq) = true at h2
        clear hsl
        go_enter Tryz.func264, Tryz.ntmps264
        go_wp2
        go_ret
        exact ⟨rfl, rfl⟩
      | false =>
        change (FloatKind.f64.format.order s 0 == some .eq) = false at h2
        rw [show eq0 s = false from h2, if_neg (by decide)] at h
        obtain ⟨t, ht, h⟩ := Option.bind_eq_some_iff.1 h
        change floatBits .mul .f64 (absN s) 4368491638549381120 = some t at ht
        split at h
        · rename_i hf
          cases h
          have CA := hide (fun W => abs_any s hsl W)
          have CU := hide (fun W => up_any t hf W)
          clear hf hsl
          go_enter Tryz.func264, Tryz.ntmps264
          go_wp2_with (first | (go_at_call 210; refine (CA.out _).mono ?_; rintro e w1 ⟨rfl, rfl⟩) | (go_at_call 140; refine (CU.out _).mono ?_; rintro e w1 ⟨rfl, rfl⟩))
          go_ret
          exact ⟨rfl, rfl⟩
        · cases h
set_option maxRecDepth 100000 in
set_option maxHeartbeats 400000 in
theorem infinite_any (x : Nat) (h : finB x = true) (w : World) : Calls Tryz.prog 158 #[.float .f64 x] w fun e w' => e = .returned (.bool false) ∧ w = w' := by
  have hA := (finB_iff h).abs
  have CA := hide (fun W => abs_any x (finB_iff h).lt W)
  clear h
  go_enter Tryz.func158, Tryz.ntmps158
  go_wp2_with (first | (go_at_call 210; refine (CA.out _).mono ?_; rintro e w1 ⟨rfl, rfl⟩) | go_in)
  go_ret
  exact ⟨rfl, rfl⟩
set_option maxRecDepth 100000 in
set_option maxHeartbeats 400000 in
theorem nan_any (x : Nat) (h : finB x = true) (w : World) : Calls Tryz.prog 159 #[.float .f64 x] w fun e w' => e = .returned (.bool false) ∧ w = w' := by
  have hA := (finB_iff h).eq
  clear h
  go_enter Tryz.func159, Tryz.ntmps159
  go_wp2
  go_ret
  exact ⟨rfl, rfl⟩
theorem Co.fin_iff {z : Co} (h : z.fin = true) : finB z.re = true ∧ finB z.im = true := by
  simpa [Co.fin] using h
set_option maxRecDepth 100000 in
set_option maxHeartbeats 400000 in
theorem kind_any (z : Co) (h : z.fin = true) (w : World) : Calls Tryz.prog 85 #[.complex .f64 z.re z.im] w fun e w' => e = .returned (.int .u8 0) ∧ w = w' := by
  obtain ⟨x, y⟩ := z
  obtain ⟨h1, h2⟩ := Co.fin_iff h
  have C1 := hide (fun W => infinite_any x h1 W)
  have C2 := hide (fun W => infinite_any y h2 W)
  have C3 := hide (fun W => nan_any x h1 W)
  have C4 := hide (fun W => nan_any y h2 W)
  clear h h1 h2
  dsimp only
  go_enter Tryz.func85, Tryz.ntmps85
  go_wp2_with fail
  refine (C1.out _).mono ?_
  rintro e w1 ⟨rfl, rfl⟩
  go_wp2_with fail
  refine (C2.out _).mono ?_
  rintro e w1 ⟨rfl, rfl⟩
  go_wp2_with fail
  refine (C3.out _).mono ?_
  rintro e w1 ⟨rfl, rfl⟩
  go_wp2_with fail
  refine (C4.out _).mono ?_
  rintro e w1 ⟨rfl, rfl⟩
  go_wp2_with fail
  go_ret
  exact ⟨rfl, rfl⟩
set_option maxRecDepth 100000 in
set_option maxHeartbeats 400000 in
theorem cadd_any (a b c : Co) (h : caddO a b = some c) (w : World) : Calls Tryz.prog 297 #[.complex .f64 a.re a.im, .complex .f64 b.re b.im] w fun e w' => e = .returned (.complex .f64 c.re c.im) ∧ w = w' := by
  obtain ⟨a1, a2⟩ := a
  obtain ⟨b1, b2⟩ := b
  obtain ⟨x, hx, h⟩ := Option.bind_eq_some_iff.1 h
  obtain ⟨y, hy, h⟩ := Option.bind_eq_some_iff.1 h
  cases h
  change floatBits .add .f64 a1 b1 = some x at hx
  change floatBits .add .f64 a2 b2 = some y at hy
  dsimp only
  go_enter Tryz.func297, Tryz.ntmps297
  go_wp2
  go_ret
  exact ⟨rfl, rfl⟩
set_option maxRecDepth 100000 in
set_option maxHeartbeats 400000 in
theorem csub_any (a b c : Co) (h : csubO a b = some c) (w : World) : Calls Tryz.prog 224 #[.complex .f64 a.re a.im, .complex .f64 b.re b.im] w fun e w' => e = .returned (.complex .f64 c.re c.im) ∧ w = w' := by
  obtain ⟨a1, a2⟩ := a
  obtain ⟨b1, b2⟩ := b
  obtain ⟨x, hx, h⟩ := Option.bind_eq_some_iff.1 h
  obtain ⟨y, hy, h⟩ := Option.bind_eq_some_iff.1 h
  cases h
  change floatBits .sub .f64 a1 b1 = some x at hx
  change floatBits .sub .f64 a2 b2 = some y at hy
  dsimp only
  go_enter Tryz.func224, Tryz.ntmps224
  go_wp2
  go_ret
  exact ⟨rfl, rfl⟩
set_option maxRecDepth 100000 in
set_option maxHeartbeats 400000 in
theorem cmul_any (a b c : Co) (h : cmulO a b = some c) (w : World) : Calls Tryz.prog 276 #[.complex .f64 a.re a.im, .complex .f64 b.re b.im] w fun e w' => e = .returned (.complex .f64 c.re c.im) ∧ w = w' := by
  obtain ⟨a1, a2⟩ := a
  obtain ⟨b1, b2⟩ := b
  obtain ⟨p, hp, h⟩ := Option.bind_eq_some_iff.1 h
  obtain ⟨q, hq, h⟩ := Option.bind_eq_some_iff.1 h
  obtain ⟨x, hx, h⟩ := Option.bind_eq_some_iff.1 h
  obtain ⟨r, hr, h⟩ := Option.bind_eq_some_iff.1 h
  obtain ⟨s, hs, h⟩ := Option.bind_eq_some_iff.1 h
  obtain ⟨y, hy, h⟩ := Option.bind_eq_some_iff.1 h
  cases h
  change floatBits .mul .f64 a1 b1 = some p at hp
  change floatBits .mul .f64 a2 b2 = some q at hq
  change floatBits .sub .f64 p q = some x at hx
  change floatBits .mul .f64 a1 b2 = some r at hr
  change floatBits .mul .f64 a2 b1 = some s at hs
  change floatBits .add .f64 r s = some y at hy
  dsimp only
  go_enter Tryz.func276, Tryz.ntmps276
  go_wp2
  go_ret
  exact ⟨rfl, rfl⟩
set_option maxRecDepth 100000 in
set_option maxHeartbeats 400000 in
theorem cneg_any (a : Co) (w : World) : Calls Tryz.prog 226 #[.complex .f64 a.re a.im] w fun e w' => e = .returned (.complex .f64 (cnegN a).re (cnegN a).im) ∧ w = w' := by
  obtain ⟨a1, a2⟩ := a
  dsimp only
  go_enter Tryz.func226, Tryz.ntmps226
  go_wp2
  go_ret
  exact ⟨rfl, rfl⟩
theorem Co.lt {z : Co} (h : z.fin = true) : z.re < 18446744073709551616 ∧ z.im < 18446744073709551616 := ⟨(finB_iff (Co.fin_iff h).1).lt, (finB_iff (Co.fin_iff h).2).lt⟩
set_option maxRecDepth 100000 in
set_option maxHeartbeats 400000 in
theorem sizes_any (z : Co) (h : z.fin = true) (w : World) : Calls Tryz.prog 207 #[.complex .f64 z.re z.im] w fun e w' => e = .returned (.tuple #[.float .f64 (sizesN z).1, .float .f64 (sizesN z).2]) ∧ w = w' := by
  obtain ⟨x, y⟩ := z
  obtain ⟨h1, h2⟩ := Co.lt h
  have C1 := hide (fun W => abs_any x h1 W)
  have C2 := hide (fun W => abs_any y h2 W)
  clear h h1 h2
  obtain ⟨p, hp⟩ : ∃ p, absN x = p := ⟨_, rfl⟩
  obtain ⟨q, hq⟩ : ∃ q, absN y = q := ⟨_, rfl⟩
  have hS : sizesN ⟨x, y⟩ = if FloatKind.f64.format.order p q == some .lt then (q, p) else (p, q) := by
    rw [← hp, ← hq]; rfl
  rw [hS]
  rw [hp] at C1
  rw [hq] at C2
  clear hp hq hS
  dsimp only
  cases hc : (FloatKind.f64.format.order p q == some .lt) <;>
  · go_enter Tryz.func207, Tryz.ntmps207
    go_wp2_with fail
    refine (C1.out _).mono ?_
    rintro e w1 ⟨rfl, rfl⟩
    go_wp2_with fail
    refine (C2.out _).mono ?_
    rintro e w1 ⟨rfl, rfl⟩
    go_wp2_with fail
    go_ret2
    exact ⟨rfl, rfl⟩
set_option maxRecDepth 100000 in
set_option maxHeartbeats 400000 in
theorem chi_any (z : Co) (r : Nat) (h : hiO z = some r) (w : World) : Calls Tryz.prog 141 #[.complex .f64 z.re z.im] w fun e w' => e = .returned (.float .f64 r) ∧ w = w' := by
  unfold hiO at h
  split at h
  · rename_i hf
    split at h
    · rename_i h0
      injection h with h
      have C1 := hide (fun W => kind_any z hf W)
      have C2 := hide (fun W => sizes_any z hf W)
      rw [h] at C2
      obtain ⟨q, hq⟩ : ∃ q, (sizesN z).2 = q := ⟨_, rfl⟩
      rw [hq] at C2 h0
      change (FloatKind.f64.format.order q 0 == some .eq) = true at h0
      obtain ⟨x, y⟩ := z
      clear h hq hf
      dsimp only at C1 C2 ⊢
      go_enter Tryz.func141, Tryz.ntmps141
      go_wp2_with fail
      refine (C1.out _).mono ?_
      rintro e w1 ⟨rfl, rfl⟩
      go_wp2_with fail
      refine (C2.out _).mono ?_
      rintro e w1 ⟨rfl, rfl⟩
      go_wp2_with fail
      go_ret
      exact ⟨rfl, rfl⟩
    · cases h
  · cases h
set_option maxRecDepth 100000 in
set_option maxHeartbeats 400000 in
theorem lostBoth_any (a b : Co) (r : Nat) (h : lostBothO a b = some r) (w : World) : Calls Tryz.prog 225 #[.complex .f64 a.re a.im, .complex .f64 b.re b.im] w fun e w' => e = .returned (.float .f64 r) ∧ w = w' := by
  obtain ⟨a1, a2⟩ := a
  obtain ⟨b1, b2⟩ := b
  obtain ⟨p, hp, h⟩ := Option.bind_eq_some_iff.1 h
  obtain ⟨q, hq, h⟩ := Option.bind_eq_some_iff.1 h
  have C1 := hide (fun W => lost_any _ _ p hp W)
  have C2 := hide (fun W => lost_any _ _ q hq W)
  have C3 := hide (fun W => plus_any _ _ r h W)
  clear h hp hq
  dsimp only at C1 C2 ⊢
  go_enter Tryz.func225, Tryz.ntmps225
  go_wp2_with fail
  refine (C1.out _).mono ?_
  rintro e w1 ⟨rfl, rfl⟩
  go_wp2_with fail
  refine (C2.out _).mono ?_
  rintro e w1 ⟨rfl, rfl⟩
  go_wp2_with fail
  refine (C3.out _).mono ?_
  rintro e w1 ⟨rfl, rfl⟩
  go_wp2_with fail
  go_ret
  exact ⟨rfl, rfl⟩
set_option maxRecDepth 100000 in
set_option maxHeartbeats 400000 in
theorem spoilt_any (a b : Co) (r : Nat) (h : spoiltO a b = some r) (w : World) : Calls Tryz.prog 277 #[.complex .f64 a.re a.im, .complex .f64 b.re b.im] w fun e w' => e = .returned (.float .f64 r) ∧ w = w' := by
  obtain ⟨a1, a2⟩ := a
  obtain ⟨b1, b2⟩ := b
  unfold spoiltO at h
  cases h0 : czero ⟨a1, a2⟩ with
  | true =>
    rw [h0, Bool.true_or, if_pos rfl] at h
    cases h
    change ((FloatKind.f64.format.order a1 0 == some .eq) && (FloatKind.f64.format.order a2 0 == some .eq)) = true at h0
    dsimp only
    go_enter Tryz.func277, Tryz.ntmps277
    go_wp2
    go_ret
    exact ⟨rfl, rfl⟩
  | false =>
    rw [h0, Bool.false_or] at h
    change ((FloatKind.f64.format.order a1 0 == some .eq) && (FloatKind.f64.format.order a2 0 == some .eq)) = false at h0
    cases h1 : czero ⟨b1, b2⟩ with
    | true =>
      rw [h1, if_pos rfl] at h
      cases h
      change ((FloatKind.f64.format.order b1 0 == some .eq) && (FloatKind.f64.format.order b2 0 == some .eq)) = true at h1
      dsimp only
      go_enter Tryz.func277, Tryz.ntmps277
      go_wp2
      go_ret
      exact ⟨rfl, rfl⟩
    | false =>
      rw [h1, if_neg (by decide)] at h
      change ((FloatKind.f64.format.order b1 0 == some .eq) && (FloatKind.f64.format.order b2 0 == some .eq)) = false at h1
      obtain ⟨ac, hac, h⟩ := Option.bind_eq_some_iff.1 h
      obtain ⟨bd, hbd, h⟩ := Option.bind_eq_some_iff.1 h
      obtain ⟨one, hone, h⟩ := Option.bind_eq_some_iff.1 h
      obtain ⟨ad, had, h⟩ := Option.bind_eq_some_iff.1 h
      obtain ⟨bc, hbc, h⟩ := Option.bind_eq_some_iff.1 h
      obtain ⟨two, htwo, h⟩ := Option.bind_eq_some_iff.1 h
      obtain ⟨s, hs, h⟩ := Option.bind_eq_some_iff.1 h
      obtain ⟨t, ht, h⟩ := Option.bind_eq_some_iff.1 h
      change floatBits .mul .f64 a1 b1 = some ac at hac
      change floatBits .mul .f64 a2 b2 = some bd at hbd
      change floatBits .mul .f64 a1 b2 = some ad at had
      change floatBits .mul .f64 a2 b1 = some bc at hbc
      change floatBits .mul .f64 s 4377498837804122112 = some t at ht
      split at h
      · rename_i hf
        have C1 := hide (fun W => abs_any ac (floatBits_lt hac) W)
        have C2 := hide (fun W => abs_any bd (floatBits_lt hbd) W)
        have C3 := hide (fun W => plus_any _ _ one hone W)
        have C4 := hide (fun W => abs_any ad (floatBits_lt had) W)
        have C5 := hide (fun W => abs_any bc (floatBits_lt hbc) W)
        have C6 := hide (fun W => plus_any _ _ two htwo W)
        have C7 := hide (fun W => plus_any _ _ s hs W)
        have C8 := hide (fun W => up_any t hf W)
        have C9 := hide (fun W => plus_any _ _ r h W)
        clear h hf hs htwo hone
        dsimp only
        go_enter Tryz.func277, Tryz.ntmps277
        go_wp2_with fail
        refine (C1.out _).mono ?_
        rintro e w1 ⟨rfl, rfl⟩
        go_wp2_with fail
        refine (C2.out _).mono ?_
        rintro e w1 ⟨rfl, rfl⟩
        go_wp2_with fail
        refine (C3.out _).mono ?_
        rintro e w1 ⟨rfl, rfl⟩
        go_wp2_with fail
        refine (C4.out _).mono ?_
        rintro e w1 ⟨rfl, rfl⟩
        go_wp2_with fail
        refine (C5.out _).mono ?_
        rintro e w1 ⟨rfl, rfl⟩
        go_wp2_with fail
        refine (C6.out _).mono ?_
        rintro e w1 ⟨rfl, rfl⟩
        go_wp2_with fail
        refine (C7.out _).mono ?_
        rintro e w1 ⟨rfl, rfl⟩
        go_wp2_with fail
        refine (C8.out _).mono ?_
        rintro e w1 ⟨rfl, rfl⟩
        go_wp2_with fail
        refine (C9.out _).mono ?_
        rintro e w1 ⟨rfl, rfl⟩
        go_wp2_with fail
        go_ret
        exact ⟨rfl, rfl⟩
      · cases h
end Go.Proofs.YtneakieigiafpaaGreatDoor
