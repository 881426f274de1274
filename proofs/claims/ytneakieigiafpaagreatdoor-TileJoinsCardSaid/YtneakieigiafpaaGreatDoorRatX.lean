/- SlpW, RatW, FlwW: texts of one claim laid together. -/
import Derived.Test.YtneakieigiafpaaGreatDoorFloX
/- poly.SlopeOn, walked. -/
namespace Go.Proofs.YtneakieigiafpaaGreatDoor
open Go.RowKit
attribute [local go_sem] run_float_arith run_f64bits run_f64from run_neg_float run_store_float run_store_complex

theorem steep_spec : ∀ (cs : List Co) (k : Nat) (l : List Ba), steepO k cs = some l → l.length = cs.length ∧ ∀ j c z, cs[j]? = some c → l[j]? = some z → ∃ x y, pointO ⟨floatN (k + j), 0⟩ = some x ∧ pointO c = some y ∧ bmulO x y = some z
  | [], k, l, h => by
    cases h
    exact ⟨rfl, fun j c z hc => by simp at hc⟩
  | c :: cs, k, l, h => by
    obtain ⟨x, hx, h⟩ := Option.bind_eq_some_iff.1 h
    obtain ⟨y, hy, h⟩ := Option.bind_eq_some_iff.1 h
    obtain ⟨z, hz, h⟩ := Option.bind_eq_some_iff.1 h
    obtain ⟨s, hs, h⟩ := Option.bind_eq_some_iff.1 h
    cases h
    obtain ⟨e1, e2⟩ := steep_spec cs (k + 1) s hs
    refine ⟨by simp [e1], fun j d w hd hw => ?_⟩
    cases j with
    | zero =>
      simp at hd hw
      subst hd; subst hw
      exact ⟨x, y, hx, hy, hz⟩
    | succ j =>
      have := e2 j d w (by simpa using hd) (by simpa using hw)
      rwa [show k + 1 + j = k + (j + 1) by omega] at this

set_option maxRecDepth 100000 in
set_option maxHeartbeats 3200000 in
theorem slope_any (p : List Co) (b0 r : Ba) (hp : OkP p) (hb : b0.ok = true) (h : slopeOnO p b0 = some r) (A : Option Addr) (c : Nat) (w : World) (hr : Row w A (p.map Co.v)) :
    Calls Tryz.prog 261 #[.slice A p.length c, b0.v] w fun e w' => e = .returned (.tuple #[r.v, .int .i64 0]) ∧ Kept w w' := by
  obtain ⟨l, hl, h⟩ := Option.bind_eq_some_iff.1 h
  obtain ⟨hlen, hst⟩ := steep_spec _ _ _ hl
  obtain ⟨i0, hi, hi0, hi1, hi2⟩ := info_parts info_ball
  obtain ⟨b, off, rfl, hcell⟩ : ∃ b off, A = some ⟨b, off, none⟩ ∧ ∀ k c, p[k]? = some c → w.cell? ⟨b, off + k, none⟩ = some c.v := by
    have h0 := hp.pos
    obtain ⟨b, off, hA, -⟩ := hr.at_ (k := 0) (by simpa using h0)
    refine ⟨b, off, hA, fun k c hk => ?_⟩
    obtain ⟨hk1, hk2⟩ := List.getElem?_eq_some_iff.1 hk
    obtain ⟨b', off', hA', h'⟩ := hr.at_ (k := k) (by simpa using hk1)
    rw [hA] at hA'
    cases hA'
    simpa [hk2] using h'
  have C1 := hide (fun (k : Nat) (W : World) (h1 : Row W (some ⟨b, off, none⟩) (p.map Co.v)) (h2 : W.cell? ⟨k, 0, none⟩ = some (.slice (some ⟨b, off, none⟩) p.length c)) => all_any p hp (some ⟨b, off, none⟩) c k W h1 h2)
  have C2 := hide (fun W => may_any b0 hb W)
  have hl17 : l.length ≤ 17 := by have := hp.len; rw [hlen, List.length_tail]; omega
  have C4 := hide (fun (A' : Option Addr) (c' : Nat) (W : World) (h1 : Row W A' (ballsV l)) => pon_any l b0 r h hl17 A' c' W h1)
  have hln : l.length = p.length - 1 := by rw [hlen, List.length_tail]
  have HR := hide hr
  have HC := hide hcell
  have HST : Hid (∀ k (h1 : 1 ≤ k) (h2 : k < p.length), ∃ x y, pointO ⟨floatN k, 0⟩ = some x ∧ pointO (p[k]) = some y ∧ bmulO x y = some (l[k - 1]'(by omega))) := fun k h1 h2 => by
    have := hst (k - 1) p[k] (l[k - 1]'(by omega)) (by rw [List.getElem?_tail, show k - 1 + 1 = k by omega]; exact List.getElem?_eq_getElem h2) (List.getElem?_eq_getElem _)
    rwa [show 1 + (k - 1) = k by omega] at this
  have hpos := hp.pos
  have hp17 := hp.len
  rw [hln] at C4
  clear h hl hr hp hb hcell hst hl17
  obtain ⟨n, hn⟩ : ∃ n, p.length = n := ⟨_, rfl⟩
  rw [hn] at C1 C4 hpos hp17 hln ⊢
  obtain ⟨⟨b1, b2⟩, br⟩ := b0
  obtain ⟨⟨r1, r2⟩, rr⟩ := r
  unfold Ba.v at *
  dsimp only at C2 C4 ⊢
  go_enter Tryz.func261, Tryz.ntmps261
  go_wp2_with fail
  refine (C1.out _ _ (((HR.out.alloc _).alloc _).alloc _) (by go_simp)).mono ?_
  rintro e w1 ⟨rfl, rfl⟩
  go_wp2_with fail
  refine (C2.out _).mono ?_
  rintro e w2 ⟨rfl, hk2⟩
  go_wp2_with fail
  have HN : Hid (∀ W, Kept w2 W → (W.cell? ⟨w.heap.size, 0, none⟩ = some (.complex .f64 b1 b2) ∧ W.cell? ⟨w.heap.size, 1, none⟩ = some (.float .f64 br)) ∧ (W.cell? ⟨w.heap.size + 1, 0, none⟩ = some (.complex .f64 0 0) ∧
      W.cell? ⟨w.heap.size + 1, 1, none⟩ = some (.float .f64 0) ∧ W.frozen? ⟨w.heap.size + 1, 0, none⟩ = false ∧ W.frozen? ⟨w.heap.size + 1, 1, none⟩ = false) ∧ Kept w W) := fun W hk => by
    have hk := hk2.trans' hk
    exact ⟨⟨(hk.cells _ _ (by simp; omega)).trans (by go_simp), (hk.cells _ _ (by simp; omega)).trans (by go_simp)⟩,
      ⟨(hk.cells _ _ (by simp)).trans (by go_simp), (hk.cells _ _ (by simp)).trans (by go_simp), (hk.thaw _ _ (by simp)).trans (by go_simp), (hk.thaw _ _ (by simp)).trans (by go_simp)⟩,
      ((((Below.refl _ w).alloc (Nat.le_refl _) _).alloc (by simp) _).alloc (by simp; omega) _).trans (hk.mono (by simp; omega))⟩
  have HK2 := hide (HN.out _ (Below.refl _ _)).2.2
  clear hk2 C1 C2
  go_loopg [6, 7] (n - 1) (fun gh v ix wr => ∃ k : Nat, k + gh = n ∧ 1 ≤ k ∧ ix = .int .i64 k ∧ Own wr w2.heap.size 2 v (k - 1) (ballsV (l.take (k - 1))) ∧ Kept w2 wr)
  case atStart => exact ⟨1, by omega, by omega, rfl, by simpa [ballsV] using Own.nil w2 w2.heap.size 2, Below.refl _ _⟩
  case round =>
    obtain ⟨k, hkg, hk1, rfl, hown, hkept⟩ := hrel
    cases gk with
    | zero =>
      have hge : ¬ (k : Int) < n := by omega
      obtain rfl : k = n := by omega
      rw [List.take_of_length_le (by omega)] at hown
      obtain ⟨A', c', rfl, -, -, hrow, -⟩ := hown.form
      obtain ⟨⟨e0, e1⟩, -, -⟩ := HN.out _ hkept
      have HRW := hide hrow
      have HK := hide hkept
      clear hown hkept hrow
      go_wp2_with fail
      refine (C4.out _ _ _ HRW.out).mono ?_
      rintro e w4 ⟨rfl, hk4⟩
      obtain ⟨-, ⟨r0, q1, f0, f1⟩, hkw⟩ := HN.out _ (HK.out.trans' hk4)
      have HKW := hide hkw
      have hz := lt_of_cell r0
      clear hk4 hkw e0 e1 HK HRW
      go_wp2_with fail
      refine bodyPost_ret (v := .tuple #[.agg #[.complex .f64 r1 r2, .float .f64 rr], .int .i64 0]) (by simp [results, Tryz.results261, go_sem, r0, q1, hz]) rfl ⟨rfl, Below.setCell (Below.setCell HKW.out (by dsimp only; omega) _) (by dsimp only; omega) _⟩
    | succ gh =>
      have hlt : (k : Int) < n := by omega
      have hltN : k < n := by omega
      obtain ⟨x, y, hx, hy, hz⟩ := HST.out k hk1 (hn ▸ hltN)
      have cw0 := HC.out k (p[k]'(hn ▸ hltN)) (List.getElem?_eq_getElem _)
      have cw := (HK2.out.cells b (off + k) (lt_of_cell cw0)).trans cw0
      have hT : l.take (k - 1 + 1) = l.take (k - 1) ++ [l[k - 1]'(by omega)] := by
        rw [List.take_add_one, List.getElem?_eq_getElem (by omega)]; rfl
      have HT := hide hT
      obtain ⟨cc, hcc⟩ : ∃ cc, p[k]'(hn ▸ hltN) = cc := ⟨_, rfl⟩
      obtain ⟨z, hzz⟩ : ∃ z, l[k - 1]'(by omega) = z := ⟨_, rfl⟩
      rw [hcc] at hy cw
      rw [hzz] at hz HT
      have CX := hide (fun W => point_any _ x hx W)
      have CY := hide (fun W => point_any _ y hy W)
      have CM := hide (fun W => bmul_any x y z hz W)
      have hlb := lt_of_cell cw
      unfold Co.v at cw
      unfold Ba.v at CX CY CM
      unfold floatN at CX
      dsimp only at CX
      clear cw0 hT hcc hzz hx hy hz
      have e0 := (hkept.cells b (off + k) hlb).trans cw
      have hI0 : (0 : Int) ≤ k := by omega
      have HKd := hide (hkept.trans' (kept_drew _))
      have HOd := hide (hown.kept (kept_drew _))
      clear hown hkept
      go_wp2_with fail
      refine wp_region_L (fun W => W.cell? ⟨b, off + k, none⟩ = some (.complex .f64 cc.re cc.im)) 13 (by kernel_rfl) ?_ (fun hHeld => ?_)
      · first | assumption | go_simp
      refine wpAnyL_take (i := 0) (v := ?_) (some 24) rfl rfl (by kernel_rfl) (by kernel_rfl) (by kernel_rfl) (by kernel_rfl) (fun _ _ _ h => h) (Or.inl ⟨by rfl, ?_⟩) (by assumption) ?_
      rotate_left
      · intro w hSw; (try dsimp only at hSw); go_simp; (try with_reducible rfl)
      try simp only [Act.put, List.setIfInBounds_toArray, List.set_cons_zero, List.set_cons_succ]
      refine wpAnyL_take (i := 1) (v := ?_) (some 25) rfl rfl (by kernel_rfl) (by kernel_rfl) (by kernel_rfl) (by kernel_rfl) (fun _ _ _ h => h) (Or.inl ⟨by rfl, ?_⟩) (by assumption) ?_
      rotate_left
      · intro w hSw; (try dsimp only at hSw); go_simp; (try with_reducible rfl)
      try simp only [Act.put, List.setIfInBounds_toArray, List.set_cons_zero, List.set_cons_succ]
      refine wpAnyL_take (i := 2) (v := ?_) (some 26) rfl rfl (by kernel_rfl) (by kernel_rfl) (by kernel_rfl) (by kernel_rfl) (fun _ _ _ h => h) (Or.inl ⟨by rfl, ?_⟩) (by assumption) ?_
      rotate_left
      · intro w hSw; (try dsimp only at hSw); go_simp; (try with_reducible rfl)
      try simp only [Act.put, List.setIfInBounds_toArray, List.set_cons_zero, List.set_cons_succ]
      refine wpAnyL_take (i := 3) (v := ?_) (some 27) rfl rfl (by kernel_rfl) (by kernel_rfl) (by kernel_rfl) (by kernel_rfl) (fun _ _ _ h => h) (Or.inl ⟨by rfl, ?_⟩) (by assumption) ?_
      rotate_left
      · intro w hSw; (try dsimp only at hSw); go_simp; (try with_reducible rfl)
      try simp only [Act.put, List.setIfInBounds_toArray, List.set_cons_zero, List.set_cons_succ]
      refine wpAnyL_take (i := 5) (v := ?_) (some 29) rfl rfl (by kernel_rfl) (by kernel_rfl) (by kernel_rfl) (by kernel_rfl) (fun _ _ _ h => h) (Or.inl ⟨by rfl, ?_⟩) (by assumption) ?_
      rotate_left
      · intro w hSw; (try dsimp only at hSw); go_simp; (try with_reducible rfl)
      try simp only [Act.put, List.setIfInBounds_toArray, List.set_cons_zero, List.set_cons_succ]
      refine wpAnyL_take (i := 6) (v := ?_) (some 30) rfl rfl (by kernel_rfl) (by kernel_rfl) (by kernel_rfl) (by kernel_rfl) (fun _ _ _ h => h) (Or.inl ⟨by rfl, ?_⟩) (by assumption) ?_
      rotate_left
      · intro w hSw; (try dsimp only at hSw); go_simp; (try with_reducible rfl)
      try simp only [Act.put, List.setIfInBounds_toArray, List.set_cons_zero, List.set_cons_succ]
      refine wpAnyL_take (i := 7) (v := ?_) (some 31) rfl rfl (by kernel_rfl) (by kernel_rfl) (by kernel_rfl) (by kernel_rfl) (fun _ _ _ h => h) (Or.inl ⟨by rfl, ?_⟩) (by assumption) ?_
      rotate_left
      · intro w hSw; (try dsimp only at hSw); go_simp; (try with_reducible rfl)
      try simp only [Act.put, List.setIfInBounds_toArray, List.set_cons_zero, List.set_cons_succ]
      refine wpAnyL_take (i := 8) (v := ?_) (some 32) rfl rfl (by kernel_rfl) (by kernel_rfl) (by kernel_rfl) (by kernel_rfl) (fun _ _ _ h => h) (Or.inl ⟨by rfl, ?_⟩) (by assumption) ?_
      rotate_left
      · intro w hSw; (try dsimp only at hSw); go_simp; (try with_reducible rfl)
      try simp only [Act.put, List.setIfInBounds_toArray, List.set_cons_zero, List.set_cons_succ]
      refine wpAnyL_one (i := 4) (by kernel_rfl) rfl (fun K hK => ?_)
      go_simp
      (refine (CX.out _).mono ?_; rintro e wx ⟨rfl, hk_wx⟩; have HK_wx := hide (HKd.out.trans' hk_wx); have HO_wx := hide (HOd.out.kept hk_wx); have e0 := (HK_wx.out.cells b (off + k) hlb).trans cw; have hbl := lt_of_cell e0; clear hk_wx)
      refine hK.out _ _ ?_ (fun hHeld => ?_)
      · first | assumption | go_simp
      clear hK K
      try simp only [Act.put, List.setIfInBounds_toArray, List.set_cons_zero, List.set_cons_succ]
      refine wpAnyL_one (i := 9) (by kernel_rfl) rfl (fun K hK => ?_)
      go_simp
      (refine (CY.out _).mono ?_; rintro e wy ⟨rfl, hk_wy⟩; have HK_wy := hide (HK_wx.out.trans' hk_wy); have HO_wy := hide (HO_wx.out.kept hk_wy); have e0 := (HK_wy.out.cells b (off + k) hlb).trans cw; have hbl := lt_of_cell e0; clear hk_wy)
      refine hK.out _ _ ?_ (fun hHeld => ?_)
      · first | assumption | go_simp
      clear hK K
      try simp only [Act.put, List.setIfInBounds_toArray, List.set_cons_zero, List.set_cons_succ]
      refine wpAnyL_one (i := 10) (by kernel_rfl) rfl (fun K hK => ?_)
      go_simp
      (refine (CM.out _).mono ?_; rintro e wz ⟨rfl, hk_wz⟩; have HK_wz := hide (HK_wy.out.trans' hk_wz); have HO_wz := hide (HO_wy.out.kept hk_wz); have e0 := (HK_wz.out.cells b (off + k) hlb).trans cw; have hbl := lt_of_cell e0; clear hk_wz)
      refine hK.out _ _ ?_ (fun hHeld => ?_)
      · first | assumption | go_simp
      clear hK K
      try simp only [Act.put, List.setIfInBounds_toArray, List.set_cons_zero, List.set_cons_succ]
      refine wpAnyL_one (i := 11) (by kernel_rfl) rfl (fun K hK => ?_)
      go_simp
      refine hK.out _ _ ?_ (fun hHeld => ?_)
      · first | assumption | go_simp
      clear hK K
      try simp only [Act.put, List.setIfInBounds_toArray, List.set_cons_zero, List.set_cons_succ]
      refine wpAnyL_one (i := 12) (by kernel_rfl) rfl (fun K hK => ?_)
      (refine step_append_row _ rfl _ _ 359 rfl w2.heap.size 109 i0 (.agg #[.complex .f64 0 0, .float .f64 0]) 2 24 Tryz.underlying359 hi hi0 hi1 hi2 rfl (by decide) _ (k - 1) _ rfl (HO_wz.out.alloc _) (some ⟨wz.heap.size, 0, none⟩) 1 1 z.cs rfl rfl (Row.new_at _ _ _ _ _ _ rfl rfl) ballsV_one (by unfold maxLen; omega) (by omega) (by have := HK_wz.out.size; simp; omega) ?_; intro v3 w3 hown3 hg3 hat3; have hk3 := (below_append (HK_wz.out.alloc (HK_wz.out.size) _) (HO_wz.out.alloc _) (Nat.le_refl _) (by have := HK_wz.out.size; simp; omega) hg3); have e0 := (Kept.cells hk3 b (off + k) hlb).trans cw; rw [← ballsV_snoc, ← HT.out] at hown3; have HO3 := hide hown3; have HK3 := hide hk3; clear hown3 hg3 hat3 hk3)
      refine hK.out _ _ ?_ (fun hHeld => ?_)
      · first | assumption | go_simp
      clear hK K
      try simp only [Act.put, List.setIfInBounds_toArray]
      refine wpAnyL_end (by kernel_rfl) rfl (fun K hK => ?_)
      go_simp
      refine hK.out _ _ ?_
      clear hK K
      try simp only [Act.put, List.setIfInBounds_toArray, List.set_cons_zero, List.set_cons_succ]
      refine wpAnyL_done (by kernel_rfl) ?_ _
      go_wp2_with fail
      go_roundg gh
      case measure => omega
      case rel => exact ⟨k + 1, by omega, by omega, by go_num, by simpa [hk1] using HO3.out, HK3.out⟩
end Go.Proofs.YtneakieigiafpaaGreatDoor

/- Maps that may be: ratmap.Check, ratmap.one, walked. -/
namespace Go.Proofs.YtneakieigiafpaaGreatDoor
open Go.RowKit
attribute [local go_sem] run_float_arith run_f64bits run_f64from run_neg_float run_store_float run_store_complex

set_option maxRecDepth 100000 in
set_option maxHeartbeats 800000 in
theorem rcheck_any (p q : List Co) (hp : OkP p) (hq : OkP q) (A B : Option Addr) (c d : Nat) (w : World) (hr : Row w A (p.map Co.v)) (hs : Row w B (q.map Co.v)) :
    Calls Tryz.prog 68 #[.agg #[.slice A p.length c, .slice B q.length d]] w fun e w' => e = .returned (.int .i64 0) ∧ Kept w w' := by
  have C1 := hide (fun (W : World) (h : Row W A (p.map Co.v)) => pcheck_any p hp A c W h)
  have C2 := hide (fun (W : World) (h : Row W B (q.map Co.v)) => pcheck_any q hq B d W h)
  have h1 : ((p.length : Int) == 0) = false := by have := hp.pos; rw [beq_eq_false_iff_ne]; omega
  have h2 : ((q.length : Int) == 0) = false := by have := hq.pos; rw [beq_eq_false_iff_ne]; omega
  have HR := hide hr
  have HS := hide hs
  clear hp hq hr hs
  generalize p.length = n at *
  generalize q.length = m at *
  generalize p.map Co.v = xs at *
  generalize q.map Co.v = ys at *
  go_enter Tryz.func68, Tryz.ntmps68
  go_wp2_with fail
  refine (C1.out _ (HR.out.alloc _)).mono ?_
  rintro e w1 ⟨rfl, rfl⟩
  go_wp2_with fail
  refine (C2.out _ (HS.out.alloc _)).mono ?_
  rintro e w1 ⟨rfl, rfl⟩
  go_wp2_with fail
  go_ret
  exact ⟨rfl, (Below.refl _ w).alloc (Nat.le_refl _) _⟩
set_option maxRecDepth 100000 in
set_option maxHeartbeats 400000 in
theorem one_any (B : Option Addr) (d : Nat) (w : World) (hs : Row w B (List.map Co.v [⟨ONE, 0⟩])) :
    Calls Tryz.prog 262 #[.slice B 1 d] w fun e w' => e = .returned (.bool true) ∧ w = w' := by
  obtain ⟨b, off, rfl, hc⟩ := hs.at_ (k := 0) (by simp)
  have c0 : w.cell? ⟨b, off, none⟩ = some (.complex .f64 4607182418800017408 0) := hc
  have o1 : (FloatKind.f64.format.order 4607182418800017408 4607182418800017408 == some .eq) = true := by kernel_rfl
  have o2 : (FloatKind.f64.format.order 0 0 == some .eq) = true := by kernel_rfl
  clear hc hs
  go_enter Tryz.func262, Tryz.ntmps262
  go_wp2
  go_ret
  exact ⟨rfl, rfl⟩
end Go.Proofs.YtneakieigiafpaaGreatDoor

/- flow.Check, flow.one, trap.period, walked. -/
namespace Go.Proofs.YtneakieigiafpaaGreatDoor
open Go.RowKit
attribute [local go_sem] run_float_arith run_f64bits run_f64from run_neg_float run_store_float run_store_complex

set_option maxHeartbeats 400000 in
theorem period_any (n : Int) (h1 : 1 ≤ n) (h2 : n ≤ 32) (w : World) : Calls Tryz.prog 86 #[.int .i64 n] w fun e w' => e = .returned (.bool true) ∧ w = w' := by
  go_enter Tryz.func86, Tryz.ntmps86
  go_wp2
  go_ret
  exact ⟨by simp [h1, h2], rfl⟩
/-- A map's two rows of coefficients. -/
structure MapAt (W : World) (A B : Option Addr) (p q : List Co) : Prop where
  p : Row W A (p.map Co.v)
  q : Row W B (q.map Co.v)
theorem MapAt.kept {W W' : World} {A B : Option Addr} {p q : List Co} (h : MapAt W A B p q) (k : Kept W W') : MapAt W' A B p q := ⟨h.p.kept k, h.q.kept k⟩
theorem MapAt.alloc {W : World} {A B : Option Addr} {p q : List Co} (h : MapAt W A B p q) (o : Obj) : MapAt (W.alloc o) A B p q := ⟨h.p.alloc o, h.q.alloc o⟩
set_option maxRecDepth 100000 in
set_option maxHeartbeats 800000 in
theorem fcheck_any (p q : List Co) (b : Ba) (hp : OkP p) (hq : OkP q) (hb : b.ok = true) (A B : Option Addr) (c d : Nat) (w : World) (hm : MapAt w A B p q) :
    Calls Tryz.prog 219 #[.agg #[.slice A p.length c, .slice B q.length d], b.v] w fun e w' => e = .returned (.int .i64 0) ∧ Kept w w' := by
  have C1 := hide (fun (W : World) (h : MapAt W A B p q) => rcheck_any p q hp hq A B c d W h.p h.q)
  have C2 := hide (fun W => may_any b hb W)
  have HM := hide hm
  clear hp hq hb hm
  generalize p.length = n at *
  generalize q.length = m at *
  obtain ⟨⟨b1, b2⟩, br⟩ := b
  unfold Ba.v at *
  dsimp only at C2 ⊢
  go_enter Tryz.func219, Tryz.ntmps219
  go_wp2_with fail
  refine (C1.out _ ((HM.out.alloc _).alloc _)).mono ?_
  rintro e w1 ⟨rfl, hk1⟩
  have e0 : w1.cell? ⟨w.heap.size + 1, 0, none⟩ = some (.complex .f64 b1 b2) := (hk1.cells _ _ (by simp)).trans (by go_simp)
  have e1 : w1.cell? ⟨w.heap.size + 1, 1, none⟩ = some (.float .f64 br) := (hk1.cells _ _ (by simp)).trans (by go_simp)
  have HK := hide ((((Below.refl _ w).alloc (Nat.le_refl _) _).alloc (by simp) _).trans (hk1.mono (by simp; omega)))
  have e8 := lt_of_cell e0
  clear hk1
  go_wp2_with fail
  refine (C2.out _).mono ?_
  rintro e w2 ⟨rfl, hk2⟩
  go_wp2_with fail
  go_ret
  exact ⟨rfl, Kept.trans' HK.out hk2⟩
set_option maxRecDepth 100000 in
set_option maxHeartbeats 800000 in
theorem steps_any (p q : List Co) (b : Ba) (hp : OkP p) (hq : OkP q) (hb : b.ok = true) (N : Int) (h0 : 0 ≤ N) (h1 : N ≤ 4096) (A B : Option Addr) (c d : Nat) (w : World) (hm : MapAt w A B p q) :
    Calls Tryz.prog 166 #[.agg #[.slice A p.length c, .slice B q.length d], b.v, .int .i64 N] w fun e w' => e = .returned (.int .i64 0) ∧ Kept w w' := by
  have C1 := hide (fun (W : World) (h : MapAt W A B p q) => fcheck_any p q b hp hq hb A B c d W h)
  have HM := hide hm
  clear hp hq hb hm
  have i0 : ¬ N < 0 := by omega
  have i1 : ¬ 4096 < N := by omega
  generalize p.length = n at *
  generalize q.length = m at *
  obtain ⟨⟨b1, b2⟩, br⟩ := b
  unfold Ba.v at *
  dsimp only at C1 ⊢
  go_enter Tryz.func166, Tryz.ntmps166
  go_wp2_with fail
  refine (C1.out _ ((HM.out.alloc _).alloc _)).mono ?_
  rintro e w1 ⟨rfl, hk1⟩
  have HK := hide ((((Below.refl _ w).alloc (Nat.le_refl _) _).alloc (by simp) _).trans (hk1.mono (by simp; omega)))
  clear hk1
  go_wp2_with fail
  go_ret
  exact ⟨rfl, HK.out⟩
set_option maxRecDepth 100000 in
set_option maxHeartbeats 800000 in
theorem fone_any (b : Ba) (h : pointO ⟨ONE, 0⟩ = some b) (w : World) : Calls Tryz.prog 199 #[] w fun e w' => e = .returned b.v ∧ Kept w w' := by
  have C1 := hide (fun W => point_any _ b h W)
  clear h
  unfold ONE at C1
  obtain ⟨⟨p, q⟩, r⟩ := b
  unfold Ba.v at *
  dsimp only at C1 ⊢
  go_enter Tryz.func199, Tryz.ntmps199
  go_wp2_with fail
  refine (C1.out _).mono ?_
  rintro e w1 ⟨rfl, hk1⟩
  have c0 : w1.cell? ⟨w.heap.size, 0, none⟩ = some (.complex .f64 0 0) := (hk1.cells _ _ (by simp)).trans (by go_simp)
  have c1 : w1.cell? ⟨w.heap.size, 1, none⟩ = some (.float .f64 0) := (hk1.cells _ _ (by simp)).trans (by go_simp)
  have f0 : w1.frozen? ⟨w.heap.size, 0, none⟩ = false := (hk1.thaw _ _ (by simp)).trans (by go_simp)
  have f1 : w1.frozen? ⟨w.heap.size, 1, none⟩ = false := (hk1.thaw _ _ (by simp)).trans (by go_simp)
  have hz5 := lt_of_cell c0
  have K1 := hide (((Below.refl _ w).alloc (Nat.le_refl _) (.cells #[.complex .f64 0 0, .float .f64 0] 109)).trans (hk1.mono (by simp)))
  clear hk1
  go_wp2_with fail
  refine bodyPost_ret (v := .agg #[.complex .f64 p q, .float .f64 r]) (by simp [results, Tryz.results199, go_sem, c0, c1, hz5]) rfl ⟨rfl, (K1.out.setCell (Nat.le_refl _) _).setCell (Nat.le_refl _) _⟩
end Go.Proofs.YtneakieigiafpaaGreatDoor
