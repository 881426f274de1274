/- PolW, PtsW, OnW, WlkW, PonW, POnW: texts of one claim laid together. -/
import Derived.Test.YtneakieigiafpaaGreatDoorBalX
import Derived.Deep.LoopGhost
import Derived.OwnWalk
/- Polynomials that may be: poly.zero, poly.finite, poly.Check, walked. -/
namespace Go.Proofs.YtneakieigiafpaaGreatDoor
open Go.RowKit
attribute [local go_sem] run_float_arith run_f64bits run_f64from run_neg_float run_store_float run_store_complex

def Co.v (z : Co) : Value := .complex .f64 z.re z.im
/-- A polynomial that may be, of one coefficient at least. -/
structure OkP (p : List Co) : Prop where
  pos : 0 < p.length
  len : p.length ≤ 17
  fin : ∀ c ∈ p, c.fin = true
  last : ∀ c, p.getLast? = some c → czero c = false
set_option maxRecDepth 100000 in
set_option maxHeartbeats 400000 in
theorem pzero_any (z : Co) (w : World) : Calls Tryz.prog 204 #[z.v] w fun e w' => e = .returned (.bool (czero z)) ∧ w = w' := by
  obtain ⟨x, y⟩ := z
  obtain ⟨v, hv⟩ : ∃ v, czero ⟨x, y⟩ = v := ⟨_, rfl⟩
  rw [hv]
  change ((FloatKind.f64.format.order x 0 == some .eq) && (FloatKind.f64.format.order y 0 == some .eq)) = v at hv
  unfold Co.v
  dsimp only
  go_enter Tryz.func204, Tryz.ntmps204
  go_wp2
  go_ret
  exact ⟨rfl, rfl⟩
set_option maxRecDepth 100000 in
set_option maxHeartbeats 400000 in
theorem pfinite_any (z : Co) (h : z.fin = true) (w : World) : Calls Tryz.prog 205 #[z.v] w fun e w' => e = .returned (.bool true) ∧ w = w' := by
  have C1 := hide (fun W => kind_any z h W)
  clear h
  obtain ⟨x, y⟩ := z
  unfold Co.v
  dsimp only at C1 ⊢
  go_enter Tryz.func205, Tryz.ntmps205
  go_wp2_with (go_at_call 85; refine (C1.out _).mono ?_; rintro e w1 ⟨rfl, rfl⟩)
  go_ret
  exact ⟨rfl, rfl⟩
set_option maxRecDepth 100000 in
set_option maxHeartbeats 800000 in
theorem pcheck_any (p : List Co) (hp : OkP p) (A : Option Addr) (c : Nat) (w : World) (hr : Row w A (p.map Co.v)) :
    Calls Tryz.prog 137 #[.slice A p.length c] w fun e w' => e = .returned (.int .i64 0) ∧ w = w' := by
  obtain ⟨h0, h1, hf, hl⟩ := hp
  obtain ⟨b, off, rfl, hcell⟩ : ∃ b off, A = some ⟨b, off, none⟩ ∧ ∀ k (hk : k < p.length), w.cell? ⟨b, off + k, none⟩ = some (p[k]).v := by
    obtain ⟨b, off, hA, -⟩ := hr.at_ (k := 0) (by simpa using h0)
    refine ⟨b, off, hA, fun k hk => ?_⟩
    obtain ⟨b', off', hA', h'⟩ := hr.at_ (k := k) (by simpa using hk)
    rw [hA] at hA'
    cases hA'
    simpa using h'
  obtain ⟨n, hn⟩ : ∃ n, p.length = n := ⟨_, rfl⟩
  have C1 := hide (fun W => pzero_any (p[p.length - 1]) W)
  rw [hl p[p.length - 1] (by rw [List.getLast?_eq_getElem?, List.getElem?_eq_getElem])] at C1
  have c0 := hcell (p.length - 1) (by omega)
  obtain ⟨z, hz⟩ : ∃ z, p[p.length - 1] = z := ⟨_, rfl⟩
  rw [hz] at C1 c0
  rw [hn] at c0 ⊢
  have HC := hide (fun (k : Nat) (hk : k < n) => hcell k (hn ▸ hk))
  have HF := hide (fun (k : Nat) (hk : k < n) (W : World) => pfinite_any (p[k]'(hn ▸ hk)) (hf _ (List.getElem_mem _)) W)
  have i1 : ¬ (17 : Int) < n := by omega
  have i2 : (0 : Int) < n := by omega
  have k1 : (0 : Int) ≤ (n : Int) - 1 := by omega
  have k2 : (n : Int) - 1 < n := by omega
  have k3 : ((n : Int) - 1).toNat = n - 1 := by omega
  have k4 : IntKind.i64.wrap ((n : Int) - 1) = (n : Int) - 1 := IntWalk.i64_in _ (by omega)
  clear hr hcell hf hl
  unfold Co.v at C1 c0
  go_enter Tryz.func137, Tryz.ntmps137
  go_wp2_with (go_at_call 204; refine (C1.out _).mono ?_; rintro e w1 ⟨rfl, rfl⟩)
  clear c0 C1 k1 k2 k3 k4 hz
  go_loopg [4, 24] n (fun gh s4 ix wr => ∃ k : Nat, k + gh = n ∧ ix = .int .i64 k ∧ wr = w)
  case atStart => exact ⟨0, by omega, rfl, rfl⟩
  case round =>
    obtain ⟨k, hkg, rfl, rfl⟩ := hrel
    cases gk with
    | zero =>
      have hge : ¬ (k : Int) < n := by omega
      go_wp2
      go_ret
      exact ⟨rfl, rfl⟩
    | succ gh =>
      have hlt : (k : Int) < n := by omega
      have hltN : k < n := by omega
      have c1 := HC.out k hltN
      have C2 := hide (HF.out k hltN)
      obtain ⟨y, hy⟩ : ∃ y, p[k]'(hn ▸ hltN) = y := ⟨_, rfl⟩
      rw [hy] at c1 C2
      unfold Co.v at c1 C2
      clear hy
      go_wp2_with (go_at_call 205; refine (C2.out _).mono ?_; rintro e w1 ⟨rfl, rfl⟩)
      go_roundg gh
      case measure => omega
      case rel => exact ⟨k + 1, by omega, by go_num, rfl⟩
end Go.Proofs.YtneakieigiafpaaGreatDoor

/- poly.points: the balls of the coefficients alone, walked. -/
namespace Go.Proofs.YtneakieigiafpaaGreatDoor
open Go.RowKit
attribute [local go_sem] run_float_arith run_f64bits run_f64from run_neg_float run_store_float run_store_complex

theorem info_ball : (Tryz.prog.info? 109).map (fun i => (i.zero, i.size, i.bytes)) = some (some (.agg #[.complex .f64 0 0, .float .f64 0]), 2, 24) := by kernel_rfl
def Ba.cs (b : Ba) : List Value := [.complex .f64 b.c.re b.c.im, .float .f64 b.r]
/-- Balls, by cells. -/
def ballsV (l : List Ba) : List Value := l.flatMap Ba.cs
theorem ballsV_len (l : List Ba) : (ballsV l).length = l.length * 2 := by
  induction l with
  | nil => rfl
  | cons b l ih => simp only [ballsV, List.flatMap_cons, List.length_append, List.length_cons] at ih ⊢; rw [ih]; simp [Ba.cs]; omega
theorem ballsV_snoc (l : List Ba) (b : Ba) : ballsV (l ++ [b]) = ballsV l ++ b.cs := by simp [ballsV]
theorem ballsV_one {b : Ba} : ∀ u ∈ b.cs, u.oneCell' = true := by
  intro u hu
  simp [Ba.cs] at hu
  rcases hu with rfl | rfl <;> rfl
theorem mapM_spec {α β : Type} (f : α → Option β) : ∀ (l : List α) (r : List β), l.mapM f = some r → r.length = l.length ∧ ∀ k (h : k < l.length) (h' : k < r.length), f l[k] = some r[k] := by
  intro l
  induction l with
  | nil =>
    intro r h
    simp at h
    subst h
    exact ⟨rfl, fun k h => by simp at h⟩
  | cons a l ih =>
    intro r h
    rw [List.mapM_cons] at h
    obtain ⟨b, hb, h⟩ := Option.bind_eq_some_iff.1 h
    obtain ⟨s, hs, h⟩ := Option.bind_eq_some_iff.1 h
    cases h
    obtain ⟨e1, e2⟩ := ih s hs
    refine ⟨by simp [e1], fun k hk hk' => ?_⟩
    cases k with
    | zero => exact hb
    | succ k => exact e2 k (by simpa using hk) (by simpa using hk')

set_option maxRecDepth 100000 in
set_option maxHeartbeats 1600000 in
theorem points_any (p : List Co) (bs : List Ba) (h : pointsO p = some bs) (hlen : p.length ≤ 17) (A : Option Addr) (c : Nat) (w : World) (hr : Row w A (p.map Co.v)) :
    Calls Tryz.prog 283 #[.slice A p.length c] w fun e w' => ∃ v, e = .returned v ∧ Own w' w.heap.size 2 v p.length (ballsV bs) ∧ Kept w w' := by
  obtain ⟨hbl, hb⟩ := mapM_spec _ _ _ h
  obtain ⟨i0, hi, hi0, hi1, hi2⟩ := info_parts info_ball
  obtain ⟨n, hn⟩ : ∃ n, p.length = n := ⟨_, rfl⟩
  rw [hn] at hbl
  have HC := hide (fun (k : Nat) (hk : k < n) => (Row.at_ hr (k := k) (by simpa using hn ▸ hk)))
  have HP := hide (fun (k : Nat) (hk : k < n) (W : World) => point_any (p[k]'(hn ▸ hk)) (bs[k]'(hbl ▸ hk)) (hb k (hn ▸ hk) (hbl ▸ hk)) W)
  rw [hn] at hlen ⊢
  have hT : ∀ k (hk : k < n), bs.take (k + 1) = bs.take k ++ [bs[k]'(hbl ▸ hk)] := fun k hk => by
    rw [List.take_add_one, List.getElem?_eq_getElem (hbl ▸ hk)]; rfl
  have HT := hide hT
  have hA : bs.take n = bs := List.take_of_length_le (by omega)
  clear hr hb h hT
  go_enter Tryz.func283, Tryz.ntmps283
  go_wp2
  go_loopg [3, 5, 8] n (fun gh v s5 ix wr => ∃ k : Nat, k + gh = n ∧ ix = .int .i64 k ∧ Own wr w.heap.size 2 v k (ballsV (bs.take k)) ∧ Kept w wr)
  case atStart => exact ⟨0, by omega, rfl, by simpa [ballsV] using Own.nil w w.heap.size 2, Below.refl _ _⟩
  case round =>
    obtain ⟨k, hkg, rfl, hown, hkept⟩ := hrel
    cases gk with
    | zero =>
      have hge : ¬ (k : Int) < n := by omega
      obtain rfl : k = n := by omega
      rw [hA] at hown
      have HO := hide hown
      have HK := hide hkept
      clear hown hkept
      go_wp2
      go_ret
      exact ⟨_, rfl, HO.out, HK.out⟩
    | succ gh =>
      have hlt : (k : Int) < n := by omega
      have hltN : k < n := by omega
      obtain ⟨b, off, rfl, hc⟩ := HC.out k hltN
      have c1 := (hkept.cells b (off + k) (lt_of_cell hc)).trans hc
      have C2 := hide (HP.out k hltN)
      have hT := HT.out k hltN
      rw [List.getElem_map] at c1
      obtain ⟨y, hy⟩ : ∃ y, p[k]'(hn ▸ hltN) = y := ⟨_, rfl⟩
      obtain ⟨q, hq⟩ : ∃ q, bs[k]'(hbl ▸ hltN) = q := ⟨_, rfl⟩
      rw [hy] at c1 C2
      rw [hq] at C2 hT
      unfold Co.v at c1
      unfold Ba.v at C2
      have HO := hide hown
      have HK := hide hkept
      have H5 := hide hT
      clear hy hc hown hkept hT hq
      go_wp2_with fail
      refine (C2.out _).mono ?_
      rintro e w1 ⟨rfl, hk1⟩
      have HO1 := hide (HO.out.kept hk1)
      have HK1 := hide (HK.out.trans' hk1)
      clear hk1 HO HK
      go_wp2_with (at_builtin; refine wpList_append_row _ rfl _ _ 359 rfl w.heap.size 109 i0 (.agg #[.complex .f64 0 0, .float .f64 0]) 2 24 Tryz.underlying359 hi hi0 hi1 hi2 rfl (by decide) _ k _ rfl (HO1.out.alloc _) (some ⟨w1.heap.size, 0, none⟩) 1 1 q.cs rfl rfl (Row.new_at _ _ _ _ _ _ rfl rfl) ballsV_one ?_ ?_ ?_ ?_)
      · unfold maxLen; omega
      · omega
      · have := HK1.out.size; simp; omega
      · intro v3 w3 hown3 hg3 hat3
        rw [← ballsV_snoc, ← H5.out] at hown3
        have HO3 := hide hown3
        have HK3 := hide (below_append (HK1.out.alloc (HK1.out.size) _) (HO1.out.alloc _) (Nat.le_refl _) (by have := HK1.out.size; simp; omega) hg3)
        clear hown3 hg3 hat3 HO1 HK1 H5
        go_wp2_with fail
        go_roundg gh
        case measure => omega
        case rel => exact ⟨k + 1, by omega, by go_num, HO3.out, HK3.out⟩
end Go.Proofs.YtneakieigiafpaaGreatDoor

/- poly.on's two functions, walked. -/
namespace Go.Proofs.YtneakieigiafpaaGreatDoor
open Go.RowKit
attribute [local go_sem] run_float_arith run_f64bits run_f64from run_neg_float run_store_float run_store_complex

set_option maxRecDepth 100000 in
set_option maxHeartbeats 400000 in
theorem on1_any (a : Ba) (w : World) : Calls Tryz.prog 293 #[a.v] w fun e w' => e = .returned a.v ∧ Kept w w' := by
  obtain ⟨⟨a1, a2⟩, ar⟩ := a
  unfold Ba.v
  dsimp only
  go_enter Tryz.func293, Tryz.ntmps293
  go_wp2
  refine bodyPost_ret (v := .agg #[.complex .f64 a1 a2, .float .f64 ar]) (by simp [results, Tryz.results293, go_sem]) rfl ⟨rfl, ?_⟩
  exact ((Below.refl _ w).alloc (Nat.le_refl _) _).alloc (by simp) _
/-- A ball in two cells. -/
structure BallAt (W : World) (b : Nat) (z : Ba) : Prop where
  c0 : W.cell? ⟨b, 0, none⟩ = some (.complex .f64 z.c.re z.c.im)
  c1 : W.cell? ⟨b, 1, none⟩ = some (.float .f64 z.r)
theorem BallAt.kept {W W' : World} {b : Nat} {z : Ba} (h : BallAt W b z) (k : Kept W W') : BallAt W' b z :=
  ⟨(k.cells _ _ (lt_of_cell h.c0)).trans h.c0, (k.cells _ _ (lt_of_cell h.c1)).trans h.c1⟩
structure OnC (w0 : World) (n cb : Nat) (s a b d : Ba) (W : World) : Prop where
  box : Box3 w0 n s a d W
  at_ : BallAt W cb b
theorem OnC.on {w0 W W' : World} {n cb : Nat} {s a b d : Ba} (h : OnC w0 n cb s a b d W) (k : Kept W W') : OnC w0 n cb s a b d W' := ⟨h.box.on k, h.at_.kept k⟩
set_option maxRecDepth 100000 in
set_option maxHeartbeats 1600000 in
theorem on2_any (s c b m r : Ba) (cb : Nat) (hm : bmulO s b = some m) (hr : baddO m c = some r) (w : World) (hb : BallAt w cb b) :
    Calls Tryz.prog 294 #[s.v, c.v, .pointer (some ⟨cb, 0, none⟩)] w fun e w' => e = .returned r.v ∧ Kept w w' := by
  have C1 := hide (fun W => bmul_any s b m hm W)
  have C2 := hide (fun W => badd_any m c r hr W)
  have HB : Hid (OnC w w.heap.size cb s c b ⟨⟨0, 0⟩, 0⟩ (((w.alloc (.cells #[.complex .f64 s.c.re s.c.im, .float .f64 s.r] 109)).alloc (.cells #[.complex .f64 c.c.re c.c.im, .float .f64 c.r] 109)).alloc (.cells #[.complex .f64 0 0, .float .f64 0] 109))) :=
    ⟨Box3.mk3 w s c ⟨⟨0, 0⟩, 0⟩ 109, hb.kept ((((Below.refl _ w).alloc (Nat.le_refl _) _).alloc (by simp) _).alloc (by simp; omega) _)⟩
  clear hm hr hb
  obtain ⟨⟨s1, s2⟩, sr⟩ := s
  obtain ⟨⟨c1, c2⟩, cr⟩ := c
  obtain ⟨⟨b1, b2⟩, br⟩ := b
  obtain ⟨⟨r1, r2⟩, rr⟩ := r
  obtain ⟨⟨m1, m2⟩, mr⟩ := m
  unfold Ba.v at *
  dsimp only at C1 C2 HB ⊢
  go_enter Tryz.func294, Tryz.ntmps294
  go_wp2_with fail
  refine wp_region_T (OnC w w.heap.size cb ⟨⟨s1, s2⟩, sr⟩ ⟨⟨c1, c2⟩, cr⟩ ⟨⟨b1, b2⟩, br⟩ ⟨⟨0, 0⟩, 0⟩) 5 (by kernel_rfl) (by kernel_rfl) ?_ ?_
  · exact HB.out.on (kept_drew _)
  dsimp only [List.take]
  refine wpQuiet_take (v := ?_) (some 6) rfl (by kernel_rfl) (fun wr hw => ?_) ?_
  rotate_left
  · (have e0 := hw.box.a0; have e1 := hw.box.a1; have e2 := hw.box.b0; have e3 := hw.box.b1; have e4 := hw.box.c0; have e5 := hw.box.c1; have e6 := hw.box.d0; have e7 := hw.box.d1; have e8 := hw.box.size; have e9 := hw.at_.c0; have e10 := hw.at_.c1; dsimp only at e0 e1 e2 e3 e4 e5 e9 e10); go_simp; (try with_reducible rfl)
  try simp only [Act.put, List.setIfInBounds_toArray, List.set_cons_zero, List.set_cons_succ]
  refine wpQuiet_take (v := ?_) (some 7) rfl (by kernel_rfl) (fun wr hw => ?_) ?_
  rotate_left
  · (have e0 := hw.box.a0; have e1 := hw.box.a1; have e2 := hw.box.b0; have e3 := hw.box.b1; have e4 := hw.box.c0; have e5 := hw.box.c1; have e6 := hw.box.d0; have e7 := hw.box.d1; have e8 := hw.box.size; have e9 := hw.at_.c0; have e10 := hw.at_.c1; dsimp only at e0 e1 e2 e3 e4 e5 e9 e10); go_simp; (try with_reducible rfl)
  try simp only [Act.put, List.setIfInBounds_toArray, List.set_cons_zero, List.set_cons_succ]
  refine wpQuiet_call (v := ?_) (f := ?_) (args := ?_) (some 8) rfl (by kernel_rfl) (fun wr hw => ?_) (fun wr hw => ?_) ?_
  rotate_left 3
  · (have e0 := hw.box.a0; have e1 := hw.box.a1; have e2 := hw.box.b0; have e3 := hw.box.b1; have e4 := hw.box.c0; have e5 := hw.box.c1; have e6 := hw.box.d0; have e7 := hw.box.d1; have e8 := hw.box.size; have e9 := hw.at_.c0; have e10 := hw.at_.c1; dsimp only at e0 e1 e2 e3 e4 e5 e9 e10); go_simp; refine ⟨?_, ?_⟩ <;> with_reducible rfl
  · refine (C1.out wr).mono ?_; rintro e w' ⟨rfl, hk⟩; refine ⟨?_, hw.on hk⟩; with_reducible rfl
  try simp only [Act.put, List.setIfInBounds_toArray, List.set_cons_zero, List.set_cons_succ]
  refine wpQuiet_take (v := ?_) (some 9) rfl (by kernel_rfl) (fun wr hw => ?_) ?_
  rotate_left
  · (have e0 := hw.box.a0; have e1 := hw.box.a1; have e2 := hw.box.b0; have e3 := hw.box.b1; have e4 := hw.box.c0; have e5 := hw.box.c1; have e6 := hw.box.d0; have e7 := hw.box.d1; have e8 := hw.box.size; have e9 := hw.at_.c0; have e10 := hw.at_.c1; dsimp only at e0 e1 e2 e3 e4 e5 e9 e10); go_simp; (try with_reducible rfl)
  try simp only [Act.put, List.setIfInBounds_toArray, List.set_cons_zero, List.set_cons_succ]
  refine wpQuiet_call (v := ?_) (f := ?_) (args := ?_) (some 10) rfl (by kernel_rfl) (fun wr hw => ?_) (fun wr hw => ?_) ?_
  rotate_left 3
  · (have e0 := hw.box.a0; have e1 := hw.box.a1; have e2 := hw.box.b0; have e3 := hw.box.b1; have e4 := hw.box.c0; have e5 := hw.box.c1; have e6 := hw.box.d0; have e7 := hw.box.d1; have e8 := hw.box.size; have e9 := hw.at_.c0; have e10 := hw.at_.c1; dsimp only at e0 e1 e2 e3 e4 e5 e9 e10); go_simp; refine ⟨?_, ?_⟩ <;> with_reducible rfl
  · refine (C2.out wr).mono ?_; rintro e w' ⟨rfl, hk⟩; refine ⟨?_, hw.on hk⟩; with_reducible rfl
  try simp only [Act.put, List.setIfInBounds_toArray, List.set_cons_zero, List.set_cons_succ]
  refine wpQuiet_nil ?_
  intro wq hq
  refine wpOp_last rfl (fun K hK => ?_)
  (have e0 := hq.box.a0; have e1 := hq.box.a1; have e2 := hq.box.b0; have e3 := hq.box.b1; have e4 := hq.box.c0; have e5 := hq.box.c1; have e6 := hq.box.d0; have e7 := hq.box.d1; have e8 := hq.box.size; have e9 := hq.at_.c0; have e10 := hq.at_.c1; dsimp only at e0 e1 e2 e3 e4 e5 e9 e10)
  go_simp
  refine hK.out _ _ ?_
  clear hK K
  try simp only [Act.put, List.setIfInBounds_toArray, List.set_cons_zero, List.set_cons_succ]
  go_wp2_with fail
  refine bodyPost_ret (v := .agg #[.complex .f64 r1 r2, .float .f64 rr]) (by simp [results, Tryz.results294, go_sem, e4, e5, e8]) rfl ⟨rfl, (hq.box.kept.setCell ?_ _).setCell ?_ _⟩
  · dsimp only; omega
  · dsimp only; omega
end Go.Proofs.YtneakieigiafpaaGreatDoor

/- poly.walk over balls, walked. -/
namespace Go.Proofs.YtneakieigiafpaaGreatDoor
open Go.RowKit
attribute [local go_sem] run_float_arith run_f64bits run_f64from run_neg_float run_store_float run_store_complex

/-- Balls one behind the other from cell lo of block lb on. -/
def BallsAt (W : World) (lb lo : Nat) (l : List Ba) : Prop := ∀ k c, l[k]? = some c → W.cell? ⟨lb, lo + k * 2, none⟩ = some (.complex .f64 c.c.re c.c.im) ∧ W.cell? ⟨lb, lo + k * 2 + 1, none⟩ = some (.float .f64 c.r)
theorem BallsAt.kept {W W' : World} {lb lo : Nat} {l : List Ba} (h : BallsAt W lb lo l) (k : Kept W W') : BallsAt W' lb lo l := fun j c hc =>
  ⟨(k.cells _ _ (lt_of_cell (h j c hc).1)).trans (h j c hc).1, (k.cells _ _ (lt_of_cell (h j c hc).2)).trans (h j c hc).2⟩
/-- In the loop: the sum s in its box n9, the result's box n8 as it was laid. -/
structure WalkC (w0 : World) (n8 n9 cb lb lo : Nat) (l : List Ba) (b s : Ba) (W : World) : Prop where
  s0 : W.cell? ⟨n9, 0, none⟩ = some (.complex .f64 s.c.re s.c.im)
  s1 : W.cell? ⟨n9, 1, none⟩ = some (.float .f64 s.r)
  f0 : W.frozen? ⟨n9, 0, none⟩ = false
  f1 : W.frozen? ⟨n9, 1, none⟩ = false
  z0 : W.cell? ⟨n8, 0, none⟩ = some (.complex .f64 0 0)
  z1 : W.cell? ⟨n8, 1, none⟩ = some (.float .f64 0)
  g0 : W.frozen? ⟨n8, 0, none⟩ = false
  g1 : W.frozen? ⟨n8, 1, none⟩ = false
  row : BallsAt W lb lo l
  at_ : BallAt W cb b
  ord : w0.heap.size ≤ n8 ∧ n8 < n9 ∧ lb < w0.heap.size ∧ cb < w0.heap.size
  kept : Kept w0 W
theorem WalkC.on {w0 W W' : World} {n8 n9 cb lb lo : Nat} {l : List Ba} {b s : Ba} (h : WalkC w0 n8 n9 cb lb lo l b s W) (k : Kept W W') : WalkC w0 n8 n9 cb lb lo l b s W' := by
  have h9 := lt_of_cell h.s0
  have h8 := lt_of_cell h.z0
  exact ⟨(k.cells _ _ h9).trans h.s0, (k.cells _ _ h9).trans h.s1, (k.thaw _ _ h9).trans h.f0, (k.thaw _ _ h9).trans h.f1, (k.cells _ _ h8).trans h.z0, (k.cells _ _ h8).trans h.z1,
    (k.thaw _ _ h8).trans h.g0, (k.thaw _ _ h8).trans h.g1, h.row.kept k, h.at_.kept k, h.ord, h.kept.trans' k⟩
/-- A new sum is stored. -/
theorem WalkC.put {w0 W : World} {n8 n9 cb lb lo : Nat} {l : List Ba} {b s : Ba} (h : WalkC w0 n8 n9 cb lb lo l b s W) (t : Ba) :
    WalkC w0 n8 n9 cb lb lo l b t ((W.setCell ⟨n9, 0, none⟩ (.complex .f64 t.c.re t.c.im)).setCell ⟨n9, 1, none⟩ (.float .f64 t.r)) := by
  obtain ⟨o1, o2, o3, o4⟩ := h.ord
  have far : ∀ (bb o : Nat), bb ≠ n9 → ((W.setCell ⟨n9, 0, none⟩ (.complex .f64 t.c.re t.c.im)).setCell ⟨n9, 1, none⟩ (.float .f64 t.r)).cell? ⟨bb, o, none⟩ = W.cell? ⟨bb, o, none⟩ := fun bb o hb => by
    rw [World.cell?_setCell_other _ _ _ _ (fun e => hb (by injection e with e1; exact e1.symm)), World.cell?_setCell_other _ _ _ _ (fun e => hb (by injection e with e1; exact e1.symm))]
  have fz : ∀ (p : Addr), ((W.setCell ⟨n9, 0, none⟩ (.complex .f64 t.c.re t.c.im)).setCell ⟨n9, 1, none⟩ (.float .f64 t.r)).frozen? p = W.frozen? p := fun p => by simp
  have c0 := h.s0
  have c1 := h.s1
  refine ⟨?_, ?_, (fz _).trans h.f0, (fz _).trans h.f1, (far _ _ (by omega)).trans h.z0, (far _ _ (by omega)).trans h.z1, (fz _).trans h.g0, (fz _).trans h.g1, fun k c hc => ⟨(far _ _ (by omega)).trans (h.row k c hc).1, (far _ _ (by omega)).trans (h.row k c hc).2⟩,
    ⟨(far _ _ (by omega)).trans h.at_.c0, (far _ _ (by omega)).trans h.at_.c1⟩, h.ord, (Below.setCell (Below.setCell h.kept (by dsimp only; omega) _) (by dsimp only; omega) _)⟩
  · go_simp
  · go_simp
theorem WalkC.start {w w1 : World} {n8 cb lb lo : Nat} {l : List Ba} {b s : Ba} {t : TypeId} (hrow : BallsAt w lb lo l) (hl : 0 < l.length) (hb : BallAt w cb b) (hk : Kept w w1) (h8 : w.heap.size ≤ n8)
    (z0 : w1.cell? ⟨n8, 0, none⟩ = some (.complex .f64 0 0)) (z1 : w1.cell? ⟨n8, 1, none⟩ = some (.float .f64 0)) (g0 : w1.frozen? ⟨n8, 0, none⟩ = false) (g1 : w1.frozen? ⟨n8, 1, none⟩ = false) :
    WalkC w n8 w1.heap.size cb lb lo l b s (w1.alloc (.cells #[.complex .f64 s.c.re s.c.im, .float .f64 s.r] t)) := by
  have ka : Kept w1 (w1.alloc (.cells #[.complex .f64 s.c.re s.c.im, .float .f64 s.r] t)) := (Below.refl _ w1).alloc (Nat.le_refl _) _
  have l8 := lt_of_cell z0
  refine ⟨?_, ?_, ?_, ?_, (ka.cells _ _ l8).trans z0, (ka.cells _ _ l8).trans z1, (ka.thaw _ _ l8).trans g0, (ka.thaw _ _ l8).trans g1, (hrow.kept hk).kept ka, (hb.kept hk).kept ka, ⟨h8, l8, ?_, lt_of_cell hb.c0⟩, hk.trans' ka⟩
  · go_simp
  · go_simp
  · go_simp
  · go_simp
  · exact lt_of_cell (hrow 0 l[0] (List.getElem?_eq_getElem hl)).1

set_option maxRecDepth 100000 in
set_option maxHeartbeats 1600000 in
theorem walk_any (l : List Ba) (b r : Ba) (h : hornO b l = some r) (hl : l.length ≤ 17) (lb lo c cb : Nat) (z : Ba) (w : World) (hrow : BallsAt w lb lo l) (hb : BallAt w cb b) :
    Calls Tryz.prog 292 #[.slice (some ⟨lb, lo, none⟩) l.length c, z.v, .func (.func 293) #[] #[], .func (.func 294) #[] #[.pointer (some ⟨cb, 0, none⟩)]] w fun e w' => e = .returned r.v ∧ Kept w w' := by
  obtain ⟨G, hG0, hG1, hG2⟩ := horn_way b l r h
  have hpos : 0 < l.length := by
    cases l with
    | nil => cases h
    | cons x l => simp
  obtain ⟨n, hn⟩ : ∃ n, l.length = n := ⟨_, rfl⟩
  have hlast := hG1 l[l.length - 1] (List.getElem?_eq_getElem (by omega))
  have hcl := hrow (l.length - 1) l[l.length - 1] (List.getElem?_eq_getElem (by omega))
  obtain ⟨s, hs⟩ : ∃ s, l[l.length - 1] = s := ⟨_, rfl⟩
  rw [hs] at hlast hcl
  rw [hn] at hlast hcl hpos hl ⊢
  have C1 := hide (fun W => on1_any s W)
  have HG := hide (fun (j : Nat) (hj : j + 1 < n) => hG2 j (l[j]'(by omega)) (by omega) (List.getElem?_eq_getElem (by omega)))
  obtain ⟨c0, c1⟩ := hcl
  have hlb := lt_of_cell c0
  have HR := hide hrow
  have HB := hide hb
  have HL := hide hlast
  have hne : ((n : Int) == 0) = false := by rw [beq_eq_false_iff_ne]; omega
  have k1 : (0 : Int) ≤ (n : Int) - 1 := by omega
  have k2 : (n : Int) - 1 < n := by omega
  have k3 : ((n : Int) - 1).toNat = n - 1 := by omega
  have k4 : IntKind.i64.wrap ((n : Int) - 1) = (n : Int) - 1 := IntWalk.i64_in _ (by omega)
  have k5 : IntKind.i64.wrap ((n : Int) - 2) = (n : Int) - 2 := IntWalk.i64_in _ (by omega)
  clear hrow hb hG1 hG2 hlast hs h
  obtain ⟨⟨s1, s2⟩, sr⟩ := s
  obtain ⟨⟨z1, z2⟩, zr⟩ := z
  obtain ⟨⟨r1, r2⟩, rr⟩ := r
  unfold Ba.v at *
  dsimp only at C1 c0 c1 ⊢
  go_enter Tryz.func292, Tryz.ntmps292
  go_wp2_with fail
  refine (C1.out _).mono ?_
  rintro e w1 ⟨rfl, hk1⟩
  have z0 : w1.cell? ⟨w.heap.size + 1, 0, none⟩ = some (.complex .f64 0 0) := (hk1.cells _ _ (by simp)).trans (by go_simp)
  have q1 : w1.cell? ⟨w.heap.size + 1, 1, none⟩ = some (.float .f64 0) := (hk1.cells _ _ (by simp)).trans (by go_simp)
  have g0 : w1.frozen? ⟨w.heap.size + 1, 0, none⟩ = false := (hk1.thaw _ _ (by simp)).trans (by go_simp)
  have g1 : w1.frozen? ⟨w.heap.size + 1, 1, none⟩ = false := (hk1.thaw _ _ (by simp)).trans (by go_simp)
  have HS : WalkC w (w.heap.size + 1) w1.heap.size cb lb lo l b ⟨⟨s1, s2⟩, sr⟩ _ := WalkC.start (t := 109) (s := ⟨⟨s1, s2⟩, sr⟩) HR.out (by omega) HB.out ((((Below.refl _ w).alloc (Nat.le_refl _) _).alloc (by simp) _).trans (hk1.mono (by simp; omega))) (Nat.le_succ _) z0 q1 g0 g1
  replace HS := hide HS
  clear z0 q1 g0 g1 hk1 c0 c1 HR HB C1 hlb
  go_wp2_with fail
  obtain ⟨N9, hN9⟩ : ∃ N, w1.heap.size = N := ⟨_, rfl⟩
  rw [hN9] at HS ⊢
  generalize w1.alloc (.cells #[.complex .f64 s1 s2, .float .f64 sr] 109) = w2 at HS ⊢
  rw [← HL.out] at HS
  clear hN9 HL k1 k2 k3 k4 k5
  go_loopg [10] (n - 1) (fun gh ix wr => ix = .int .i64 ((gh : Int) - 1) ∧ gh < n ∧ WalkC w (w.heap.size + 1) N9 cb lb lo l b (G gh) wr)
  case atStart => exact ⟨by congr 1; omega, by omega, HS.out⟩
  case round =>
    obtain ⟨rfl, hgn, hW⟩ := hrel
    cases gk with
    | zero =>
      rw [hG0] at hW
      have e0 := hW.s0
      have e1 := hW.s1
      have e2 := hW.z0
      have e3 := hW.z1
      have e4 := hW.g0
      have e5 := hW.g1
      have e6 := lt_of_cell hW.z0
      have HW := hide hW
      clear hW
      dsimp only at e0 e1
      go_wp2
      refine bodyPost_ret (v := .agg #[.complex .f64 r1 r2, .float .f64 rr]) (by simp [results, Tryz.results292, go_sem, e2, e3, e6]) rfl ⟨rfl, Below.setCell (Below.setCell HW.out.kept (by dsimp only; omega) _) (by dsimp only; omega) _⟩
    | succ gh =>
      have hI : ((gh + 1 : Nat) : Int) - 1 = gh := by omega
      rw [hI]
      have i0 : (0 : Int) ≤ gh := by omega
      have i1 : (gh : Int) < n := by omega
      have i2 : IntKind.i64.wrap ((gh : Int) - 1) = (gh : Int) - 1 := IntWalk.i64_in _ (by omega)
      obtain ⟨m, hm, hr⟩ := HG.out gh (by omega)
      obtain ⟨y, hy⟩ : ∃ y, l[gh]'(by omega) = y := ⟨_, rfl⟩
      rw [hy] at hr
      have hyl : l[gh]? = some y := by rw [List.getElem?_eq_getElem (by omega), hy]
      have CO := hide (fun (W : World) (hb : BallAt W cb b) => on2_any (G (gh + 1)) y b m (G gh) cb hm hr W hb)
      have HY := hide hyl
      clear hy hm hr hI hyl
      have HW := hide hW
      clear hW
      obtain ⟨S, hS⟩ : ∃ S, G (gh + 1) = S := ⟨_, rfl⟩
      obtain ⟨T, hT⟩ : ∃ S, G gh = S := ⟨_, rfl⟩
      rw [hS] at HW CO
      rw [hT] at CO
      unfold Ba.v at CO
      go_wp2_with fail
      refine wp_region_T (WalkC w (w.heap.size + 1) N9 cb lb lo l b S) 7 (by kernel_rfl) (by kernel_rfl) ?_ ?_
      · exact HW.out.on (kept_drew _)
      dsimp only [List.take]
      refine wpQuiet_take (v := ?_) (some 30) rfl (by kernel_rfl) (fun wr hw => ?_) ?_
      rotate_left
      · (have e0 := hw.s0; have e1 := hw.s1; have e2 := hw.f0; have e3 := hw.f1; have e4 := (hw.row gh y HY.out).1; have e5 := (hw.row gh y HY.out).2; have e6 := lt_of_cell hw.s0); go_simp; (try with_reducible rfl)
      try simp only [Act.put, List.setIfInBounds_toArray, List.set_cons_zero, List.set_cons_succ]
      refine wpQuiet_take (v := ?_) (some 31) rfl (by kernel_rfl) (fun wr hw => ?_) ?_
      rotate_left
      · (have e0 := hw.s0; have e1 := hw.s1; have e2 := hw.f0; have e3 := hw.f1; have e4 := (hw.row gh y HY.out).1; have e5 := (hw.row gh y HY.out).2; have e6 := lt_of_cell hw.s0); go_simp; (try with_reducible rfl)
      try simp only [Act.put, List.setIfInBounds_toArray, List.set_cons_zero, List.set_cons_succ]
      refine wpQuiet_take (v := ?_) (some 32) rfl (by kernel_rfl) (fun wr hw => ?_) ?_
      rotate_left
      · (have e0 := hw.s0; have e1 := hw.s1; have e2 := hw.f0; have e3 := hw.f1; have e4 := (hw.row gh y HY.out).1; have e5 := (hw.row gh y HY.out).2; have e6 := lt_of_cell hw.s0); go_simp; (try with_reducible rfl)
      try simp only [Act.put, List.setIfInBounds_toArray, List.set_cons_zero, List.set_cons_succ]
      refine wpQuiet_take (v := ?_) (some 33) rfl (by kernel_rfl) (fun wr hw => ?_) ?_
      rotate_left
      · (have e0 := hw.s0; have e1 := hw.s1; have e2 := hw.f0; have e3 := hw.f1; have e4 := (hw.row gh y HY.out).1; have e5 := (hw.row gh y HY.out).2; have e6 := lt_of_cell hw.s0); go_simp; (try with_reducible rfl)
      try simp only [Act.put, List.setIfInBounds_toArray, List.set_cons_zero, List.set_cons_succ]
      refine wpQuiet_take (v := ?_) (some 34) rfl (by kernel_rfl) (fun wr hw => ?_) ?_
      rotate_left
      · (have e0 := hw.s0; have e1 := hw.s1; have e2 := hw.f0; have e3 := hw.f1; have e4 := (hw.row gh y HY.out).1; have e5 := (hw.row gh y HY.out).2; have e6 := lt_of_cell hw.s0); go_simp; (try with_reducible rfl)
      try simp only [Act.put, List.setIfInBounds_toArray, List.set_cons_zero, List.set_cons_succ]
      refine wpQuiet_take (v := ?_) (some 35) rfl (by kernel_rfl) (fun wr hw => ?_) ?_
      rotate_left
      · (have e0 := hw.s0; have e1 := hw.s1; have e2 := hw.f0; have e3 := hw.f1; have e4 := (hw.row gh y HY.out).1; have e5 := (hw.row gh y HY.out).2; have e6 := lt_of_cell hw.s0); go_simp; (try with_reducible rfl)
      try simp only [Act.put, List.setIfInBounds_toArray, List.set_cons_zero, List.set_cons_succ]
      refine wpQuiet_call (v := ?_) (f := ?_) (args := ?_) (some 36) rfl (by kernel_rfl) (fun wr hw => ?_) (fun wr hw => ?_) ?_
      rotate_left 3
      · (have e0 := hw.s0; have e1 := hw.s1; have e2 := hw.f0; have e3 := hw.f1; have e4 := (hw.row gh y HY.out).1; have e5 := (hw.row gh y HY.out).2; have e6 := lt_of_cell hw.s0); go_simp; refine ⟨?_, ?_⟩ <;> with_reducible rfl
      · refine (CO.out wr hw.at_).mono ?_; rintro e w' ⟨rfl, hk⟩; refine ⟨?_, hw.on hk⟩; with_reducible rfl
      try simp only [Act.put, List.setIfInBounds_toArray, List.set_cons_zero, List.set_cons_succ]
      refine wpQuiet_nil ?_
      intro wq hq
      refine wpOp_last rfl (fun K hK => ?_)
      (have e0 := hq.s0; have e1 := hq.s1; have e2 := hq.f0; have e3 := hq.f1; have e4 := (hq.row gh y HY.out).1; have e5 := (hq.row gh y HY.out).2; have e6 := lt_of_cell hq.s0)
      go_simp
      refine hK.out _ _ ?_
      clear hK K
      try simp only [Act.put, List.setIfInBounds_toArray, List.set_cons_zero, List.set_cons_succ]
      have HQ := hide (hq.put T)
      clear hq HW CO e0 e1 e2 e3 e4 e5 e6
      go_wp2_with fail
      go_roundg gh
      case measure => omega
      case rel => exact ⟨rfl, by omega, hT ▸ HQ.out⟩
end Go.Proofs.YtneakieigiafpaaGreatDoor

/- poly.on, walked. -/
namespace Go.Proofs.YtneakieigiafpaaGreatDoor
open Go.RowKit
attribute [local go_sem] run_float_arith run_f64bits run_f64from run_neg_float run_store_float run_store_complex

theorem ballsV_at : ∀ (l : List Ba) (k : Nat) (c : Ba), l[k]? = some c → (ballsV l)[k * 2]? = some (.complex .f64 c.c.re c.c.im) ∧ (ballsV l)[k * 2 + 1]? = some (.float .f64 c.r)
  | [], k, c, h => by simp at h
  | b :: l, 0, c, h => by
    simp at h
    subst h
    exact ⟨rfl, rfl⟩
  | b :: l, k + 1, c, h => by
    obtain ⟨h1, h2⟩ := ballsV_at l k c (by simpa using h)
    have e : ballsV (b :: l) = .complex .f64 b.c.re b.c.im :: .float .f64 b.r :: ballsV l := rfl
    rw [e, show (k + 1) * 2 = k * 2 + 1 + 1 by omega]
    exact ⟨by simpa using h1, by simpa using h2⟩
theorem BallsAt.of_row {W : World} {A : Option Addr} {l : List Ba} (h : Row W A (ballsV l)) (hl : 0 < l.length) : ∃ lb lo, A = some ⟨lb, lo, none⟩ ∧ BallsAt W lb lo l := by
  rcases h with h | ⟨b, off, hA, hc⟩
  · have := ballsV_len l
    rw [h] at this
    simp at this
    omega
  · exact ⟨b, off, hA, fun k c hk => ⟨hc _ _ (ballsV_at l k c hk).1, hc _ _ (ballsV_at l k c hk).2⟩⟩

set_option maxRecDepth 100000 in
set_option maxHeartbeats 800000 in
theorem walk_nil (A : Option Addr) (c cb : Nat) (z : Ba) (w : World) :
    Calls Tryz.prog 292 #[.slice A 0 c, z.v, .func (.func 293) #[] #[], .func (.func 294) #[] #[.pointer (some ⟨cb, 0, none⟩)]] w fun e w' => e = .returned z.v ∧ Kept w w' := by
  obtain ⟨⟨z1, z2⟩, zr⟩ := z
  unfold Ba.v
  dsimp only
  go_enter Tryz.func292, Tryz.ntmps292
  go_wp2
  refine bodyPost_ret (v := .agg #[.complex .f64 z1 z2, .float .f64 zr]) (by simp [results, Tryz.results292, go_sem]) rfl ⟨rfl, ?_⟩
  exact ((Below.refl _ w).alloc (Nat.le_refl _) _).alloc (by simp) _

/-- The walk of a row of balls. -/
theorem walk_row (l : List Ba) (b r : Ba) (h : onO l b = some r) (hl : l.length ≤ 17) (A : Option Addr) (c cb : Nat) (z : Ba) (hz : pointO ⟨0, 0⟩ = some z) (w : World) (hrow : Row w A (ballsV l)) (hb : BallAt w cb b) :
    Calls Tryz.prog 292 #[.slice A l.length c, z.v, .func (.func 293) #[] #[], .func (.func 294) #[] #[.pointer (some ⟨cb, 0, none⟩)]] w fun e w' => e = .returned r.v ∧ Kept w w' := by
  unfold onO at h
  cases l with
  | nil =>
    rw [List.isEmpty_nil, if_pos rfl, hz] at h
    injection h with h
    subst h
    exact walk_nil A c cb z w
  | cons x l =>
    rw [List.isEmpty_cons, if_neg (by decide)] at h
    obtain ⟨lb, lo, rfl, hB⟩ := BallsAt.of_row hrow (by simp)
    exact walk_any (x :: l) b r h hl lb lo c cb z w hB hb

set_option maxRecDepth 100000 in
set_option maxHeartbeats 800000 in
theorem pon_any (l : List Ba) (b r : Ba) (h : onO l b = some r) (hl : l.length ≤ 17) (A : Option Addr) (c : Nat) (w : World) (hrow : Row w A (ballsV l)) :
    Calls Tryz.prog 282 #[.slice A l.length c, b.v] w fun e w' => e = .returned r.v ∧ Kept w w' := by
  obtain ⟨z, hz⟩ : ∃ z, pointO ⟨0, 0⟩ = some z := ⟨⟨⟨0, 0⟩, 0⟩, by kernel_rfl⟩
  have C1 := hide (fun W => point_any ⟨0, 0⟩ z hz W)
  have C2 := hide (fun (cb : Nat) (W : World) (h1 : Row W A (ballsV l)) (h2 : BallAt W cb b) => walk_row l b r h hl A c cb z hz W h1 h2)
  have HR := hide hrow
  clear h hz hrow
  generalize l.length = n at C2 hl ⊢
  have HB : Hid (∀ W, Kept ((w.alloc (.cells #[.complex .f64 b.c.re b.c.im, .float .f64 b.r] 109)).alloc (.cells #[.complex .f64 0 0, .float .f64 0] 109)) W → BallAt W w.heap.size b ∧
      (W.cell? ⟨w.heap.size + 1, 0, none⟩ = some (.complex .f64 0 0) ∧ W.cell? ⟨w.heap.size + 1, 1, none⟩ = some (.float .f64 0) ∧ W.frozen? ⟨w.heap.size + 1, 0, none⟩ = false ∧ W.frozen? ⟨w.heap.size + 1, 1, none⟩ = false) ∧ Kept w W) := fun W hk =>
    ⟨⟨(hk.cells _ _ (by simp; omega)).trans (by go_simp), (hk.cells _ _ (by simp; omega)).trans (by go_simp)⟩,
      ⟨(hk.cells _ _ (by simp)).trans (by go_simp), (hk.cells _ _ (by simp)).trans (by go_simp), (hk.thaw _ _ (by simp)).trans (by go_simp), (hk.thaw _ _ (by simp)).trans (by go_simp)⟩,
      (((Below.refl _ w).alloc (Nat.le_refl _) _).alloc (by simp) _).trans (hk.mono (by simp; omega))⟩
  obtain ⟨⟨b1, b2⟩, br⟩ := b
  obtain ⟨⟨z1, z2⟩, zr⟩ := z
  obtain ⟨⟨r1, r2⟩, rr⟩ := r
  unfold Ba.v at *
  dsimp only at C1 C2 HB ⊢
  go_enter Tryz.func282, Tryz.ntmps282
  go_wp2_with fail
  refine (C1.out _).mono ?_
  rintro e w1 ⟨rfl, hk1⟩
  obtain ⟨hb1, -, hk⟩ := HB.out w1 hk1
  have CW := hide (C2.out _ w1 (HR.out.kept hk) hb1)
  have H1 := hide hk1
  clear hk1 hb1 hk C1 C2
  go_wp2_with fail
  refine CW.out.mono ?_
  rintro e w2 ⟨rfl, hk2⟩
  obtain ⟨-, ⟨e0, e1, e2, e3⟩, hk⟩ := HB.out w2 (H1.out.trans' hk2)
  have e6 := lt_of_cell e0
  have HK := hide hk
  clear hk hk2 H1 HB CW
  go_wp2_with fail
  refine bodyPost_ret (v := .agg #[.complex .f64 r1 r2, .float .f64 rr]) (by simp [results, Tryz.results282, go_sem, e0, e1, e6]) rfl ⟨rfl, Below.setCell (Below.setCell HK.out (by dsimp only; omega) _) (by dsimp only; omega) _⟩
end Go.Proofs.YtneakieigiafpaaGreatDoor

/- poly.all of one polynomial, poly.On, walked. -/
namespace Go.Proofs.YtneakieigiafpaaGreatDoor
open Go.RowKit
attribute [local go_sem] run_float_arith run_f64bits run_f64from run_neg_float run_store_float run_store_complex

set_option maxRecDepth 100000 in
set_option maxHeartbeats 800000 in
theorem all_any (p : List Co) (hp : OkP p) (A : Option Addr) (c b : Nat) (w : World) (hr : Row w A (p.map Co.v)) (hc : w.cell? ⟨b, 0, none⟩ = some (.slice A p.length c)) :
    Calls Tryz.prog 281 #[.slice (some ⟨b, 0, none⟩) 1 1] w fun e w' => e = .returned (.bool true) ∧ w = w' := by
  have C1 := hide (pcheck_any p hp A c w hr)
  clear hr
  generalize p.length = n at C1 hc
  go_enter Tryz.func281, Tryz.ntmps281
  go_wp2
  go_loopg [4, 7] 1 (fun gh s4 ix wr => ∃ k : Nat, k + gh = 1 ∧ ix = .int .i64 k ∧ wr = w)
  case atStart => exact ⟨0, by omega, rfl, rfl⟩
  case round =>
    obtain ⟨k, hkg, rfl, rfl⟩ := hrel
    cases gk with
    | zero =>
      obtain rfl : k = 1 := by omega
      go_wp2
      go_ret
      exact ⟨rfl, rfl⟩
    | succ gh =>
      obtain rfl : k = 0 := by omega
      go_wp2_with (go_at_call 137; refine C1.out.mono ?_; rintro e w1 ⟨rfl, rfl⟩)
      go_roundg gh
      case measure => omega
      case rel => exact ⟨1, by omega, by go_num, rfl⟩

set_option maxRecDepth 100000 in
set_option maxHeartbeats 1600000 in
theorem ponc_any (p : List Co) (b r : Ba) (hp : OkP p) (hb : b.ok = true) (h : polyOnO p b = some r) (A : Option Addr) (c : Nat) (w : World) (hr : Row w A (p.map Co.v)) :
    Calls Tryz.prog 260 #[.slice A p.length c, b.v] w fun e w' => e = .returned (.tuple #[r.v, .int .i64 0]) ∧ Kept w w' := by
  obtain ⟨l, hl, h⟩ := Option.bind_eq_some_iff.1 h
  have hlen := (mapM_spec _ _ _ hl).1
  have C1 := hide (fun (k : Nat) (W : World) (h1 : Row W A (p.map Co.v)) (h2 : W.cell? ⟨k, 0, none⟩ = some (.slice A p.length c)) => all_any p hp A c k W h1 h2)
  have C2 := hide (fun W => may_any b hb W)
  have C3 := hide (fun (W : World) (h1 : Row W A (p.map Co.v)) => points_any p l hl hp.len A c W h1)
  have C4 := hide (fun (A' : Option Addr) (c' : Nat) (W : World) (h1 : Row W A' (ballsV l)) => pon_any l b r h (by rw [hlen]; exact hp.len) A' c' W h1)
  rw [hlen] at C4
  have HR := hide hr
  clear h hl hr hp hb
  generalize p.length = n at C1 C3 C4 ⊢
  generalize p.map Co.v = xs at C1 C3 HR
  clear hlen
  obtain ⟨⟨b1, b2⟩, br⟩ := b
  obtain ⟨⟨r1, r2⟩, rr⟩ := r
  unfold Ba.v at *
  dsimp only at C2 C4 ⊢
  go_enter Tryz.func260, Tryz.ntmps260
  go_wp2_with fail
  refine (C1.out _ _ (((HR.out.alloc _).alloc _).alloc _) (by go_simp)).mono ?_
  rintro e w1 ⟨rfl, rfl⟩
  go_wp2_with fail
  refine (C2.out _).mono ?_
  rintro e w2 ⟨rfl, hk2⟩
  go_wp2_with fail
  have HN : Hid (∀ W, Kept w2 W → (W.cell? ⟨w.heap.size, 0, none⟩ = some (.complex .f64 b1 b2) ∧ W.cell? ⟨w.heap.size, 1, none⟩ = some (.float .f64 br)) ∧ (W.cell? ⟨w.heap.size + 1, 0, none⟩ = some (.complex .f64 0 0) ∧
      W.cell? ⟨w.heap.size + 1, 1, none⟩ = some (.float .f64 0) ∧ W.frozen? ⟨w.heap.size + 1, 0, none⟩ = false ∧ W.frozen? ⟨w.heap.size + 1, 1, none⟩ = false) ∧ Kept w W) := fun W hk => by
    have hk := hk2.trans' hk
    exact ⟨⟨(hk.cells _ _ (by simp; omega)).trans (by go_simp), (hk.cells _ _ (by simp; omega)).trans (by go_simp)⟩,
      ⟨(hk.cells _ _ (by simp)).trans (by go_simp), (hk.cells _ _ (by simp)).trans (by go_simp), (hk.thaw _ _ (by simp)).trans (by go_simp), (hk.thaw _ _ (by simp)).trans (by go_simp)⟩,
      ((((Below.refl _ w).alloc (Nat.le_refl _) _).alloc (by simp) _).alloc (by simp; omega) _).trans (hk.mono (by simp; omega))⟩
  clear hk2 C1 C2
  obtain ⟨⟨e0, e1⟩, -, hk0⟩ := HN.out _ (kept_drew w2)
  have HR2 := hide (HR.out.kept hk0)
  clear hk0
  refine wp_region_L (fun W => W.cell? ⟨w.heap.size, 0, none⟩ = some (.complex .f64 b1 b2) ∧ W.cell? ⟨w.heap.size, 1, none⟩ = some (.float .f64 br)) 5 (by kernel_rfl) ?_ (fun hHeld => ?_)
  · exact ⟨by go_simp, by go_simp⟩
  refine wpAnyL_take (i := 0) (v := ?_) (some 16) rfl rfl (by kernel_rfl) (by kernel_rfl) (by kernel_rfl) (by kernel_rfl) (fun _ _ _ h => h) (Or.inl ⟨by rfl, ?_⟩) (by assumption) ?_
  rotate_left
  · intro w hSw; (try dsimp only at hSw); go_simp; (try with_reducible rfl)
  try simp only [Act.put, List.setIfInBounds_toArray, List.set_cons_zero, List.set_cons_succ]
  refine wpAnyL_take (i := 2) (v := ?_) (some 18) rfl rfl (by kernel_rfl) (by kernel_rfl) (by kernel_rfl) (by kernel_rfl) (fun _ _ _ h => h) (Or.inl ⟨by rfl, ?_⟩) (by assumption) ?_
  rotate_left
  · intro w hSw; (try dsimp only at hSw); go_simp; (try with_reducible rfl)
  try simp only [Act.put, List.setIfInBounds_toArray, List.set_cons_zero, List.set_cons_succ]
  refine wpAnyL_one (i := 1) (by kernel_rfl) rfl (fun K hK => ?_)
  go_simp
  (refine (C3.out _ HR2.out).mono ?_; rintro e w3 ⟨v, rfl, hown, hk3⟩; obtain ⟨A', c', rfl, -, -, hrow, -⟩ := hown.form; have HRW := hide hrow; have HK3 := hide ((kept_drew w2).trans' hk3); obtain ⟨⟨e0, e1⟩, -, -⟩ := HN.out _ HK3.out; clear hown hrow hk3)
  refine hK.out _ _ ?_ (fun hHeld => ?_)
  · exact ⟨by go_simp, by go_simp⟩
  clear hK K
  try simp only [Act.put, List.setIfInBounds_toArray, List.set_cons_zero, List.set_cons_succ]
  refine wpAnyL_one (i := 3) (by kernel_rfl) rfl (fun K hK => ?_)
  go_simp
  (refine (C4.out _ _ _ HRW.out).mono ?_; rintro e w4 ⟨rfl, hk4⟩; have HK4 := hide (HK3.out.trans' hk4); obtain ⟨⟨e0, e1⟩, ⟨r0, q1, f0, f1⟩, hkw⟩ := HN.out _ HK4.out; have HKW := hide hkw; have hz := lt_of_cell r0; clear hk4 hkw)
  refine hK.out _ _ ?_ (fun hHeld => ?_)
  · exact ⟨by go_simp, by go_simp⟩
  clear hK K
  try simp only [Act.put, List.setIfInBounds_toArray, List.set_cons_zero, List.set_cons_succ]
  refine wpAnyL_one (i := 4) (by kernel_rfl) rfl (fun K hK => ?_)
  go_simp
  refine hK.out _ _ ?_ (fun hHeld => ?_)
  · exact ⟨by go_simp, by go_simp⟩
  clear hK K
  try simp only [Act.put, List.setIfInBounds_toArray, List.set_cons_zero, List.set_cons_succ]
  refine wpAnyL_end (by kernel_rfl) rfl (fun K hK => ?_)
  go_simp
  refine hK.out _ _ ?_
  clear hK K
  try simp only [Act.put, List.setIfInBounds_toArray, List.set_cons_zero, List.set_cons_succ]
  refine wpAnyL_done (by kernel_rfl) ?_ _
  clear hHeld
  go_wp2_with fail
  refine bodyPost_ret (v := .tuple #[.agg #[.complex .f64 r1 r2, .float .f64 rr], .int .i64 0]) (by simp [results, Tryz.results260, go_sem, r0, q1, hz]) rfl ⟨rfl, Below.setCell (Below.setCell HKW.out (by dsimp only; omega) _) (by dsimp only; omega) _⟩
end Go.Proofs.YtneakieigiafpaaGreatDoor
