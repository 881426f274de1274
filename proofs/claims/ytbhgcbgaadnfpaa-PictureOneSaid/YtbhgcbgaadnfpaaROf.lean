/- The reference's Of, walked. -/
import Derived.Test.YtbhgcbgaadnfpaaOf
namespace Go.Proofs.Ytbhgcbgaadnfpaa
open Go.RowKit

set_option maxRecDepth 100000 in
set_option maxHeartbeats 1600000 in
theorem rof_any (T : TilD) (A : Option Addr) (n c : Nat) (w : World) (h : TilAt w T A n c) (hT : tileB T.x T.y T.a T.d n = true) :
    Calls Try.prog 39 #[.agg #[.int .i64 T.x, .int .i64 T.y, .int .i64 T.a, .int .i64 T.d, .slice A n c]] w fun e w' => ∃ (A' : Option Addr) (c' : Nat), e = .returned (.agg #[.int .i64 T.a, .int .i64 T.d, .slice A' n c']) ∧ Own w' w.heap.size 1 (.slice A' n c') n (bytesV (shades T)) ∧ Kept w w' := by
  obtain ⟨i0, hi, hi0, hi1, hi2⟩ := info_parts info_u8
  obtain ⟨w1, hw1⟩ : ∃ w1, w1 = (w.alloc (.cells #[.int .i64 T.x, .int .i64 T.y, .int .i64 T.a, .int .i64 T.d, .slice A n c] 69)).alloc (.cells #[.int .i64 0, .int .i64 0, .slice none 0 0] 24) := ⟨_, rfl⟩
  have hz : w1.heap.size = w.heap.size + 1 + 1 := by rw [hw1]; simp
  have R1 : Hid (Res0 w w1 (w.heap.size + 1)) := by rw [hw1]; exact Res0.new_at w (w.alloc (.cells #[.int .i64 T.x, .int .i64 T.y, .int .i64 T.a, .int .i64 T.d, .slice A n c] 69)) 24 (w.heap.size + 1) (by simp) ((Below.refl _ _).alloc (Nat.le_refl _) _)
  have B1 : Hid (∀ W, Below w1.heap.size w1 W → W.cell? ⟨w.heap.size, 4, none⟩ = some (.slice A n c) ∧ W.cell? ⟨w.heap.size, 2, none⟩ = some (.int .i64 T.a) ∧ W.cell? ⟨w.heap.size, 3, none⟩ = some (.int .i64 T.d)) := by
    intro W hW
    refine ⟨(hW.cell (p := ⟨w.heap.size, 4, none⟩) (by show w.heap.size < _; omega)).trans (by rw [hw1]; simp), (hW.cell (p := ⟨w.heap.size, 2, none⟩) (by show w.heap.size < _; omega)).trans (by rw [hw1]; simp), (hW.cell (p := ⟨w.heap.size, 3, none⟩) (by show w.heap.size < _; omega)).trans (by rw [hw1]; simp)⟩
  have K1 : Hid (Kept w w1) := by rw [hw1]; exact ((Below.refl _ w).alloc (Nat.le_refl _) _).alloc (by simp) _
  have hn := (mayB_bounds (tileB_may hT)).2.2.2.2.2.2
  have HT := hide h
  have hz1 : w.heap.size + 1 < w1.heap.size := by omega
  have HZ := hide hz
  have HBOX := hide (fun (W : World) (hW : Below w1.heap.size w1 W) => R1.out.below hW hz1)
  clear hT h hz hz1
  go_enter Try.func39, Try.ntmps39
  go_wp2
  rw [← hw1]
  clear hw1
  go_loopg [4] n (fun gh ix wy => OutLoop n w1 (.int .i64 T.a) (.int .i64 T.d) (fun k => (T.c.take k).map shadeU) gh ix wy)
  case atStart => exact ⟨0, 0, none, 0, by omega, rfl, Box.new _ _ _ _ _ _ rfl, frozen_fresh _ _ _ _, Own.nil _ _ _, by simp, (Below.refl _ _).alloc (Nat.le_refl _) _⟩
  case round =>
    obtain ⟨k, m, A2, c2', hkg, rfl, hout⟩ := hrel
    dsimp only at hout
    obtain ⟨c4, c2, c3⟩ := B1.out wr hout.below
    cases gk with
    | zero =>
      have hge : ¬ (k : Int) < n := by omega
      have HKT := hide (show (T.c.take k).map shadeU = shades T by rw [List.take_of_length_le (by have := HT.out.len; omega)]; rfl)
      have BX := HBOX.out wr hout.below
      have t0 := BX.r0
      have t1 := BX.r1
      have t2 := BX.r2
      have g0 := BX.f0
      have g1 := BX.f1
      have g2 := BX.f2
      have tl := BX.lt
      have RES := hide BX
      obtain ⟨o0, o1, o2⟩ := hout.box
      rw [HZ.out] at o0 o1 o2
      have HO := hide hout.own
      have hmn : m = n := by
        have := hout.own.1
        rw [bytesV_length, List.length_map, List.length_take] at this
        have := HT.out.len
        omega
      have HMN := hide hmn
      clear BX hout hkg hmn
      go_wp2
      refine bodyPost_ret (v := .agg #[.int .i64 T.a, .int .i64 T.d, .slice A2 m c2']) (by simp [results, Try.results39, go_sem, t0, t1, t2]) rfl ⟨A2, c2', by rw [HMN.out], ?_, RES.out.stored _ _ _⟩
      have ho := HO.out
      rw [HKT.out, HMN.out] at ho
      rw [HMN.out]
      have hb : w.heap.size + 1 < w1.heap.size + 1 := by have := HZ.out; omega
      have hne : ∀ k, (Value.slice A2 n c2').ownBlock = some k → k ≠ w.heap.size + 1 := fun k hk => by have := (ho.lt k hk).1; omega
      exact (((ho.less (base' := w.heap.size) (by omega)).far (p := ⟨w.heap.size + 1, 0, none⟩) hne _).far (p := ⟨w.heap.size + 1, 1, none⟩) hne _).far (p := ⟨w.heap.size + 1, 2, none⟩) hne _
    | succ gh =>
      have hlt : (k : Int) < n := by omega
      obtain ⟨x, hx⟩ : ∃ x, T.c[k]? = some x := ⟨_, List.getElem?_eq_getElem (by have := HT.out.len; omega)⟩
      obtain ⟨bb, off, rfl, x0, x1, x2⟩ := wit_at (HT.out.row.kept (K1.out.trans (hout.below.mono K1.out.size))) hx
      have hb4 : bb < w.heap.size := by
        obtain ⟨b', off', h1, h2, -, -⟩ := wit_at HT.out.row hx
        injection h1 with h1
        injection h1 with h1
        subst h1
        exact lt_of_cell h2
      have HNX := hide (shades_next hx)
      have hok := HT.out.ok x (List.mem_of_getElem? hx)
      have CS : Hid (∀ W, Calls Try.prog 36 #[.agg #[.int .u8 x.t, .int .i64 x.s, .int .i64 x.r]] W fun e w' => e = .returned (.int .u8 (shadeI x.t x.s)) ∧ Kept W w') := fun W => rshade_any x.t x.s x.r W hok.1 hok.2.1 hok.2.2.1 hok.2.2.2.1
      have hml := hout.own.1
      rw [bytesV_length, List.length_map, List.length_take] at hml
      have hmk : m ≤ 4194304 - 1 := by have := HT.out.len; omega
      have HOUT := hide hout
      have o2 := hout.box.2.2
      have hwz2 := hout.lt
      rw [HZ.out] at o2 hwz2
      have HS4 := hide (And.intro x0 (And.intro x1 (And.intro x2 (And.intro c4 o2))))
      have SK : Hid (∀ w3 w5, Kept wr w3 → w3.grownBy w5 (Value.slice A2 m c2').ownBlock → (w5.cell? ⟨bb, off + k * 3, none⟩ = some (.int .u8 x.t) ∧ w5.cell? ⟨bb, off + k * 3 + 1, none⟩ = some (.int .i64 x.s) ∧ w5.cell? ⟨bb, off + k * 3 + 2, none⟩ = some (.int .i64 x.r) ∧ w5.cell? ⟨w.heap.size, 4, none⟩ = some (.slice (some ⟨bb, off, none⟩) n c) ∧ w5.cell? ⟨w.heap.size + 1 + 1, 2, none⟩ = some (.slice A2 m c2')) ∧ Below (w1.heap.size + 1) wr w5) := by
        intro w3 w5 hk hg
        have hb5 : Below (w1.heap.size + 1) wr w5 := below_append (w := w3) (hk.mono HOUT.out.lt) (HOUT.out.own.kept hk) (Nat.le_refl _) (by have := hk.size; have := HOUT.out.lt; omega) hg
        have hzz := HZ.out
        refine ⟨⟨(hb5.cell (p := ⟨bb, off + k * 3, none⟩) (by show bb < _; omega)).trans x0, (hb5.cell (p := ⟨bb, off + k * 3 + 1, none⟩) (by show bb < _; omega)).trans x1, (hb5.cell (p := ⟨bb, off + k * 3 + 2, none⟩) (by show bb < _; omega)).trans x2, (hb5.cell (p := ⟨w.heap.size, 4, none⟩) (by show w.heap.size < _; omega)).trans c4, (hb5.cell (p := ⟨w.heap.size + 1 + 1, 2, none⟩) (by show w.heap.size + 1 + 1 < _; omega)).trans o2⟩, hb5⟩
      clear hx hok hml hout c2 c3
      go_wp2_with fail
      clear x0 x1 x2 c4 o2
      refine wp_region_L (fun X => X.cell? ⟨bb, off + k * 3, none⟩ = some (.int .u8 x.t) ∧ X.cell? ⟨bb, off + k * 3 + 1, none⟩ = some (.int .i64 x.s) ∧ X.cell? ⟨bb, off + k * 3 + 2, none⟩ = some (.int .i64 x.r) ∧ X.cell? ⟨w.heap.size, 4, none⟩ = some (.slice (some ⟨bb, off, none⟩) n c) ∧ X.cell? ⟨w.heap.size + 1 + 1, 2, none⟩ = some (.slice A2 m c2')) 11 (by kernel_rfl) ?_ (fun hHeld => ?_)
      · first | exact HS4.out | assumption | exact hS4
      refine wpAnyL_take (i := 0) (v := ?_) (some 19) rfl rfl (by kernel_rfl) (by kernel_rfl) (by kernel_rfl) (by kernel_rfl) (fun _ _ _ h => h) (Or.inl ⟨by rfl, ?_⟩) (by assumption) ?_
      rotate_left
      · intro w hSw; (try dsimp only at hSw); go_simp; (try with_reducible rfl)
      try simp only [Act.put, List.setIfInBounds_toArray, List.set_cons_zero, List.set_cons_succ]
      refine wpAnyL_take (i := 1) (v := ?_) (some 20) rfl rfl (by kernel_rfl) (by kernel_rfl) (by kernel_rfl) (by kernel_rfl) (fun _ _ _ h => h) (Or.inl ⟨by rfl, ?_⟩) (by assumption) ?_
      rotate_left
      · intro w hSw; (try dsimp only at hSw); go_simp; (try with_reducible rfl)
      try simp only [Act.put, List.setIfInBounds_toArray, List.set_cons_zero, List.set_cons_succ]
      refine wpAnyL_take (i := 2) (v := ?_) (some 21) rfl rfl (by kernel_rfl) (by kernel_rfl) (by kernel_rfl) (by kernel_rfl) (fun _ _ _ h => h) (Or.inl ⟨by rfl, ?_⟩) (by assumption) ?_
      rotate_left
      · intro w hSw; (try dsimp only at hSw); go_simp; (try with_reducible rfl)
      try simp only [Act.put, List.setIfInBounds_toArray, List.set_cons_zero, List.set_cons_succ]
      refine wpAnyL_take (i := 3) (v := ?_) (some 22) rfl rfl (by kernel_rfl) (by kernel_rfl) (by kernel_rfl) (by kernel_rfl) (fun _ _ _ h => h) (Or.inl ⟨by rfl, ?_⟩) (by assumption) ?_
      rotate_left
      · intro w hSw; (try dsimp only at hSw); go_simp; (try with_reducible rfl)
      try simp only [Act.put, List.setIfInBounds_toArray, List.set_cons_zero, List.set_cons_succ]
      refine wpAnyL_take (i := 4) (v := ?_) (some 23) rfl rfl (by kernel_rfl) (by kernel_rfl) (by kernel_rfl) (by kernel_rfl) (fun _ _ _ h => h) (Or.inl ⟨by rfl, ?_⟩) (by assumption) ?_
      rotate_left
      · intro w hSw; (try dsimp only at hSw); go_simp; (try with_reducible rfl)
      try simp only [Act.put, List.setIfInBounds_toArray, List.set_cons_zero, List.set_cons_succ]
      refine wpAnyL_take (i := 5) (v := ?_) (some 24) rfl rfl (by kernel_rfl) (by kernel_rfl) (by kernel_rfl) (by kernel_rfl) (fun _ _ _ h => h) (Or.inl ⟨by rfl, ?_⟩) (by assumption) ?_
      rotate_left
      · intro w hSw; (try dsimp only at hSw); go_simp; (try with_reducible rfl)
      try simp only [Act.put, List.setIfInBounds_toArray, List.set_cons_zero, List.set_cons_succ]
      refine wpAnyL_take (i := 6) (v := ?_) (some 25) rfl rfl (by kernel_rfl) (by kernel_rfl) (by kernel_rfl) (by kernel_rfl) (fun _ _ _ h => h) (Or.inl ⟨by rfl, ?_⟩) (by assumption) ?_
      rotate_left
      · intro w hSw; (try dsimp only at hSw); go_simp; (try with_reducible rfl)
      try simp only [Act.put, List.setIfInBounds_toArray, List.set_cons_zero, List.set_cons_succ]
      refine wpAnyL_one (i := 7) (by kernel_rfl) rfl (fun K hK => ?_)
      go_simp
      (refine (CS.out _).mono ?_; rintro e w3 ⟨rfl, hk3⟩; have hk3' : Kept wr w3 := ((Below.refl _ wr).drew).trans hk3; have hS3 := (SK.out w3 w3 hk3' (World.grownBy.refl _ _)).1; have hk4 : Kept wr (w3.alloc (.cells #[.int .u8 (shadeI x.t x.s)] 5)) := hk3'.alloc hk3'.size _; have hS4 := (SK.out _ _ hk4 (World.grownBy.refl _ _)).1)
      refine hK.out _ _ ?_ (fun hHeld => ?_)
      · first | exact HS4.out | assumption | exact hS4
      clear hK K
      try simp only [Act.put, List.setIfInBounds_toArray, List.set_cons_zero, List.set_cons_succ]
      refine wpAnyL_one (i := 8) (by kernel_rfl) rfl (fun K hK => ?_)
      go_simp
      refine hK.out _ _ ?_ (fun hHeld => ?_)
      · first | exact HS4.out | assumption | exact hS4
      clear hK K
      try simp only [Act.put, List.setIfInBounds_toArray, List.set_cons_zero, List.set_cons_succ]
      refine wpAnyL_one (i := 9) (by kernel_rfl) rfl (fun K hK => ?_)
      (refine step_append_row _ rfl _ _ 22 rfl (w1.heap.size + 1) 5 i0 (.int .u8 0) 1 1 Try.underlying22 hi hi0 hi1 hi2 rfl (by decide) (.slice A2 m c2') m _ rfl (HOUT.out.own.kept hk4) (some ⟨w3.heap.size, 0, none⟩) 1 1 (bytesV [shadeU x]) rfl rfl (Row.new_at _ _ _ _ _ _ (shade_one x) rfl) (bytesV_one _) (by unfold maxLen; omega) (by omega) (by have := hk4.size; have := HOUT.out.lt; omega) ?_; intro v5 w5 hown5 hg5 hat5; have hS5 := SK.out _ w5 hk4 hg5; obtain ⟨A5, c5, rfl, -, -, -, -, -⟩ := hown5.form; have hS6 := hS5.1; have ef := (hS5.2.frozen (p := ⟨w1.heap.size, 2, none⟩) (by simp)).trans HOUT.out.free; rw [HZ.out] at ef)
      refine hK.out _ _ ?_ (fun hHeld => ?_)
      · first | exact HS4.out | assumption | exact hS4
      clear hK K
      try simp only [Act.put, List.setIfInBounds_toArray]
      refine wpAnyL_one (i := 10) (by kernel_rfl) rfl (fun K hK => ?_)
      go_simp
      refine hK.out _ _ ?_ (fun hHeld => ?_)
      · first | exact HS4.out | assumption | exact hS4
      clear hK K
      try simp only [Act.put, List.setIfInBounds_toArray, List.set_cons_zero, List.set_cons_succ]
      refine wpAnyL_end (by kernel_rfl) rfl (fun K hK => ?_)
      go_simp
      refine hK.out _ _ ?_
      clear hK K
      try simp only [Act.put, List.setIfInBounds_toArray, List.set_cons_zero, List.set_cons_succ]
      refine wpAnyL_done (by kernel_rfl) ?_ _
      have HG := hide (HOUT.out.grow hS5.2 hown5)
      clear hown5 hg5 hat5 ef hS5 hS6 hk3 hk3' hS3 hk4 hS4
      go_wp2
      go_roundg gh
      case measure => omega
      case rel =>
        refine ⟨k + 1, m + 1, A5, c5, by omega, by go_num, ?_⟩
        have h9 := HG.out
        rw [← HNX.out, HZ.out] at h9
        exact h9
end Go.Proofs.Ytbhgcbgaadnfpaa
