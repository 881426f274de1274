/- picture.Of and the reference's Of, walked. -/
import Derived.Test.YtbhgcbgaadnfpaaTile
import Derived.Test.YtbhgcbgaadnfpaaPicY
namespace Go.Proofs.Ytbhgcbgaadnfpaa
open Go.RowKit

def shadeU (x : Wit) : UInt8 := UInt8.ofNat (shadeI x.t x.s).toNat
theorem shadeI_byte (x : Wit) : 0 ≤ shadeI x.t x.s ∧ shadeI x.t x.s ≤ 255 := by
  unfold shadeI; split
  · omega
  · split <;> omega
theorem shade_one (x : Wit) : [Value.int .u8 (shadeI x.t x.s)] = bytesV [shadeU x] := by
  have := shadeI_byte x
  simp [bytesV, shadeU]
  omega
def shades (T : TilD) : List UInt8 := T.c.map shadeU
def TilD.pic (T : TilD) : PicD := ⟨T.a, T.d, shades T⟩
def ofE (T : TilD) (n : Nat) : Int := if tileB T.x T.y T.a T.d n then 0 else 290
theorem shades_next {T : TilD} {k : Nat} {x : Wit} (h : T.c[k]? = some x) : (T.c.take (k + 1)).map shadeU = (T.c.take k).map shadeU ++ [shadeU x] := by
  rw [List.take_add_one, h]; simp

set_option maxRecDepth 100000 in
set_option maxHeartbeats 400000 in
theorem of_bad (T : TilD) (A : Option Addr) (n c : Nat) (w : World) (P : PicD) (h : TilAt w T A n c) (hT : tileB T.x T.y T.a T.d n = false) :
    Calls Try.prog 37 #[.agg #[.int .i64 T.x, .int .i64 T.y, .int .i64 T.a, .int .i64 T.d, .slice A n c]] w (PutPost w 290 P) := by
  have R0 := hide (Res0.new_at w (w.alloc (.cells #[.int .i64 T.x, .int .i64 T.y, .int .i64 T.a, .int .i64 T.d, .slice A n c] 69)) 24 (w.heap.size + 1) (by simp) ((Below.refl _ _).alloc (Nat.le_refl _) _))
  have CW : Hid (∀ W, Kept w W → Calls Try.prog 56 #[.agg #[.int .i64 T.x, .int .i64 T.y, .int .i64 T.a, .int .i64 T.d, .slice A n c]] W fun e w' => e = .returned (.bool false) ∧ Kept W w') := fun W hW => by
    have := whole_any T A n c W (h.kept hW)
    rwa [hT] at this
  clear hT h
  go_enter Try.func37, Try.ntmps37
  go_wp2_with (go_at_call 56; refine (CW.out _ (((Below.refl _ _).alloc (Nat.le_refl _) _).alloc (by simp) _)).mono ?_; rintro e w1 ⟨rfl, hk1⟩; have R1 := R0.out.below hk1 (by simp); have t0 := R1.r0; have t1 := R1.r1; have t2 := R1.r2; have g0 := R1.f0; have g1 := R1.f1; have g2 := R1.f2; have R2 := hide R1; clear R1)
  exact bodyPost_ret (v := .tuple #[.agg #[.int .i64 0, .int .i64 0, .slice none 0 0], .int .i64 290]) (by simp [results, Try.results37, go_sem, t0, t1, t2]) rfl (PutPost.err (by omega) (R2.out.stored _ _ _))

set_option maxRecDepth 100000 in
set_option maxHeartbeats 1600000 in
theorem of_good (T : TilD) (A : Option Addr) (n c : Nat) (w : World) (h : TilAt w T A n c) (hT : tileB T.x T.y T.a T.d n = true) :
    Calls Try.prog 37 #[.agg #[.int .i64 T.x, .int .i64 T.y, .int .i64 T.a, .int .i64 T.d, .slice A n c]] w (PutPost w 0 T.pic) := by
  obtain ⟨i0, hi, hi0, hi1, hi2⟩ := info_parts info_u8
  have R0 := hide (Res0.new_at w (w.alloc (.cells #[.int .i64 T.x, .int .i64 T.y, .int .i64 T.a, .int .i64 T.d, .slice A n c] 69)) 24 (w.heap.size + 1) (by simp) ((Below.refl _ _).alloc (Nat.le_refl _) _))
  have CW : Hid (∀ W, Kept w W → Calls Try.prog 56 #[.agg #[.int .i64 T.x, .int .i64 T.y, .int .i64 T.a, .int .i64 T.d, .slice A n c]] W fun e w' => e = .returned (.bool true) ∧ Kept W w') := fun W hW => by
    have := whole_any T A n c W (h.kept hW)
    rwa [hT] at this
  have hn := (mayB_bounds (tileB_may hT)).2.2.2.2.2.2
  have HT := hide h
  have B0 : Hid (∀ o v, (w.alloc (.cells #[.int .i64 T.x, .int .i64 T.y, .int .i64 T.a, .int .i64 T.d, .slice A n c] 69)).cell? ⟨w.heap.size, o, none⟩ = some v → ∀ W, Kept ((w.alloc (.cells #[.int .i64 T.x, .int .i64 T.y, .int .i64 T.a, .int .i64 T.d, .slice A n c] 69)).alloc (.cells #[.int .i64 0, .int .i64 0, .slice none 0 0] 24)) W → W.cell? ⟨w.heap.size, o, none⟩ = some v) := fun o v hv W hW => by
    rw [hW.cells _ _ (by simp; omega), World.cell?_alloc_lt _ _ ⟨w.heap.size, o, none⟩ (by simp)]; exact hv
  clear hT h
  go_enter Try.func37, Try.ntmps37
  go_wp2_with (go_at_call 56; refine (CW.out _ (((Below.refl _ _).alloc (Nat.le_refl _) _).alloc (by simp) _)).mono ?_; rintro e w1 ⟨rfl, hk1⟩; have R1 := hide (R0.out.below hk1 (by simp)); have c2 := B0.out 2 (.int .i64 T.a) (by simp) w1 hk1; have c3 := B0.out 3 (.int .i64 T.d) (by simp) w1 hk1; have c4 := B0.out 4 (.slice A n c) (by simp) w1 hk1; have hz0 := lt_of_cell c2; have K1 := hide ((((Below.refl _ w).alloc (Nat.le_refl _) _).alloc (by simp) _).trans (hk1.mono (by simp; omega))); clear hk1)
  have HBOX := hide (fun (W : World) (hW : Below w1.heap.size w1 W) => R1.out.below hW R1.out.lt)
  have hz1 := R1.out.lt
  go_loopg [21] n (fun gh ix wy => OutLoop n w1 (.int .i64 T.a) (.int .i64 T.d) (fun k => (T.c.take k).map shadeU) gh ix wy)
  case atStart => exact ⟨0, 0, none, 0, by omega, rfl, Box.new _ _ _ _ _ _ rfl, frozen_fresh _ _ _ _, Own.nil _ _ _, by simp, (Below.refl _ _).alloc (Nat.le_refl _) _⟩
  case round =>
    obtain ⟨k, m, A2, c2', hkg, rfl, hout⟩ := hrel
    dsimp only at hout
    cases gk with
    | zero =>
      have hge : ¬ (k : Int) < n := by omega
      have HKT := hide (show (T.c.take k).map shadeU = T.pic.g by rw [List.take_of_length_le (by have := HT.out.len; omega)]; rfl)
      have BX := HBOX.out wr hout.below
      have t0 := BX.r0
      have t1 := BX.r1
      have t2 := BX.r2
      have g0 := BX.f0
      have g1 := BX.f1
      have g2 := BX.f2
      have tl := BX.lt
      have RES := hide BX
      obtain ⟨o0, o1, o2⟩ := hout.box
      have HO := hide hout.own
      clear BX hout hkg
      go_wp2
      exact bodyPost_ret (v := .tuple #[.agg #[.int .i64 T.a, .int .i64 T.d, .slice A2 m c2'], .int .i64 0]) (by simp [results, Try.results37, go_sem, t0, t1, t2]) rfl (put_ok (P := T.pic) HO.out HKT.out RES.out (by omega))
    | succ gh =>
      have hlt : (k : Int) < n := by omega
      obtain ⟨x, hx⟩ : ∃ x, T.c[k]? = some x := ⟨_, List.getElem?_eq_getElem (by have := HT.out.len; omega)⟩
      obtain ⟨bb, off, rfl, x0, x1, x2⟩ := wit_at (HT.out.row.kept (K1.out.trans (hout.below.mono K1.out.size))) hx
      have hbl := lt_of_cell x0
      have HNX := hide (shades_next hx)
      have hok := HT.out.ok x (List.mem_of_getElem? hx)
      have CS : Hid (∀ W, Calls Try.prog 23 #[.agg #[.int .u8 x.t, .int .i64 x.s, .int .i64 x.r]] W fun e w' => e = .returned (.int .u8 (shadeI x.t x.s)) ∧ Kept W w') := fun W => shade_any x.t x.s x.r W hok.1 hok.2.1 hok.2.2.1 hok.2.2.2.1
      have hml := hout.own.1
      rw [bytesV_length, List.length_map, List.length_take] at hml
      have hmk : m ≤ 4194304 - 1 := by have := HT.out.len; omega
      have HOUT := hide hout
      have o2 := hout.box.2.2
      have hwz2 := hout.lt
      clear hx hok hml hout
      go_wp2_with fail
      obtain ⟨W, hW⟩ : ∃ W, W = wr.alloc (.cells #[.int .u8 x.t, .int .i64 x.s, .int .i64 x.r] 43) := ⟨_, rfl⟩
      have hKW : Kept wr W := by rw [hW]; exact (Below.refl _ _).alloc (Nat.le_refl _) _
      have hbx : Box W wr.heap.size (.int .u8 x.t) (.int .i64 x.s) (.int .i64 x.r) := by rw [hW]; exact Box.new _ _ _ _ _ _ rfl
      have ho2 : W.cell? ⟨w1.heap.size, 2, none⟩ = some (.slice A2 m c2') := (hKW.cells _ _ hwz2).trans o2
      have hzW : wr.heap.size < W.heap.size := lt_of_cell hbx.1
      have HKW := hide hKW
      have HS4 := hide (And.intro hbx.1 (And.intro hbx.2.1 (And.intro hbx.2.2 ho2)))
      have SK : Hid (∀ w3 w5, Kept W w3 → w3.grownBy w5 (Value.slice A2 m c2').ownBlock → (w5.cell? ⟨wr.heap.size, 0, none⟩ = some (.int .u8 x.t) ∧ w5.cell? ⟨wr.heap.size, 1, none⟩ = some (.int .i64 x.s) ∧ w5.cell? ⟨wr.heap.size, 2, none⟩ = some (.int .i64 x.r) ∧ w5.cell? ⟨w1.heap.size, 2, none⟩ = some (.slice A2 m c2')) ∧ Below (w1.heap.size + 1) wr w5) := by
        intro w3 w5 hk hg
        have hl3 : wr.heap.size < w3.heap.size := Nat.lt_of_lt_of_le hzW hk.size
        have hne1 : some wr.heap.size ≠ (Value.slice A2 m c2').ownBlock := fun e => by have := (HOUT.out.own.lt _ e.symm).2; omega
        have hne2 : some w1.heap.size ≠ (Value.slice A2 m c2').ownBlock := fun e => by have := (HOUT.out.own.lt _ e.symm).1; omega
        have far : ∀ o, w5.cell? ⟨wr.heap.size, o, none⟩ = W.cell? ⟨wr.heap.size, o, none⟩ := fun o => (hg.cell_far ⟨wr.heap.size, o, none⟩ hl3 hne1).trans (hk.cells _ _ hzW)
        refine ⟨⟨(far 0).trans hbx.1, (far 1).trans hbx.2.1, (far 2).trans hbx.2.2, (hg.cell_far ⟨w1.heap.size, 2, none⟩ (by show w1.heap.size < _; omega) hne2).trans ((hk.cells _ _ (by omega)).trans ho2)⟩, ?_⟩
        exact below_append (w := w3) ((hKW.mono (by omega)).trans (hk.mono (by omega))) ((HOUT.out.own.kept hKW).kept hk) (Nat.le_refl _) (by omega) hg
      rw [← hW]
      clear hW hKW hbx ho2 o2 x0 x1 x2 c2 c3 c4
      refine wp_region_L (fun X => X.cell? ⟨wr.heap.size, 0, none⟩ = some (.int .u8 x.t) ∧ X.cell? ⟨wr.heap.size, 1, none⟩ = some (.int .i64 x.s) ∧ X.cell? ⟨wr.heap.size, 2, none⟩ = some (.int .i64 x.r) ∧ X.cell? ⟨w1.heap.size, 2, none⟩ = some (.slice A2 m c2')) 7 (by kernel_rfl) ?_ (fun hHeld => ?_)
      · first | exact HS4.out | assumption | exact hS4
      refine wpAnyL_take (i := 0) (v := ?_) (some 25) rfl rfl (by kernel_rfl) (by kernel_rfl) (by kernel_rfl) (by kernel_rfl) (fun _ _ _ h => h) (Or.inl ⟨by rfl, ?_⟩) (by assumption) ?_
      rotate_left
      · intro w hSw; (try dsimp only at hSw); go_simp; (try with_reducible rfl)
      try simp only [Act.put, List.setIfInBounds_toArray, List.set_cons_zero, List.set_cons_succ]
      refine wpAnyL_take (i := 1) (v := ?_) (some 26) rfl rfl (by kernel_rfl) (by kernel_rfl) (by kernel_rfl) (by kernel_rfl) (fun _ _ _ h => h) (Or.inl ⟨by rfl, ?_⟩) (by assumption) ?_
      rotate_left
      · intro w hSw; (try dsimp only at hSw); go_simp; (try with_reducible rfl)
      try simp only [Act.put, List.setIfInBounds_toArray, List.set_cons_zero, List.set_cons_succ]
      refine wpAnyL_take (i := 2) (v := ?_) (some 27) rfl rfl (by kernel_rfl) (by kernel_rfl) (by kernel_rfl) (by kernel_rfl) (fun _ _ _ h => h) (Or.inl ⟨by rfl, ?_⟩) (by assumption) ?_
      rotate_left
      · intro w hSw; (try dsimp only at hSw); go_simp; (try with_reducible rfl)
      try simp only [Act.put, List.setIfInBounds_toArray, List.set_cons_zero, List.set_cons_succ]
      refine wpAnyL_one (i := 3) (by kernel_rfl) rfl (fun K hK => ?_)
      go_simp
      (refine (CS.out _).mono ?_; rintro e w3 ⟨rfl, hk3⟩; have hk3' : Kept W w3 := ((Below.refl _ W).drew).trans hk3; have hS3 : w3.cell? ⟨wr.heap.size, 0, none⟩ = some (.int .u8 x.t) ∧ w3.cell? ⟨wr.heap.size, 1, none⟩ = some (.int .i64 x.s) ∧ w3.cell? ⟨wr.heap.size, 2, none⟩ = some (.int .i64 x.r) ∧ w3.cell? ⟨w1.heap.size, 2, none⟩ = some (.slice A2 m c2') := ⟨(hk3'.cells _ _ (lt_of_cell HS4.out.1)).trans HS4.out.1, (hk3'.cells _ _ (lt_of_cell HS4.out.2.1)).trans HS4.out.2.1, (hk3'.cells _ _ (lt_of_cell HS4.out.2.2.1)).trans HS4.out.2.2.1, (hk3'.cells _ _ (lt_of_cell HS4.out.2.2.2)).trans HS4.out.2.2.2⟩; have hk4 : Kept W (w3.alloc (.cells #[.int .u8 (shadeI x.t x.s)] 5)) := hk3'.alloc hk3'.size _; have hS4 : (w3.alloc (.cells #[.int .u8 (shadeI x.t x.s)] 5)).cell? ⟨wr.heap.size, 0, none⟩ = some (.int .u8 x.t) ∧ (w3.alloc (.cells #[.int .u8 (shadeI x.t x.s)] 5)).cell? ⟨wr.heap.size, 1, none⟩ = some (.int .i64 x.s) ∧ (w3.alloc (.cells #[.int .u8 (shadeI x.t x.s)] 5)).cell? ⟨wr.heap.size, 2, none⟩ = some (.int .i64 x.r) ∧ (w3.alloc (.cells #[.int .u8 (shadeI x.t x.s)] 5)).cell? ⟨w1.heap.size, 2, none⟩ = some (.slice A2 m c2') := ⟨(hk4.cells _ _ (lt_of_cell HS4.out.1)).trans HS4.out.1, (hk4.cells _ _ (lt_of_cell HS4.out.2.1)).trans HS4.out.2.1, (hk4.cells _ _ (lt_of_cell HS4.out.2.2.1)).trans HS4.out.2.2.1, (hk4.cells _ _ (lt_of_cell HS4.out.2.2.2)).trans HS4.out.2.2.2⟩)
      refine hK.out _ _ ?_ (fun hHeld => ?_)
      · first | exact HS4.out | assumption | exact hS4
      clear hK K
      try simp only [Act.put, List.setIfInBounds_toArray, List.set_cons_zero, List.set_cons_succ]
      refine wpAnyL_one (i := 4) (by kernel_rfl) rfl (fun K hK => ?_)
      go_simp
      refine hK.out _ _ ?_ (fun hHeld => ?_)
      · first | exact HS4.out | assumption | exact hS4
      clear hK K
      try simp only [Act.put, List.setIfInBounds_toArray, List.set_cons_zero, List.set_cons_succ]
      refine wpAnyL_one (i := 5) (by kernel_rfl) rfl (fun K hK => ?_)
      (refine step_append_row _ rfl _ _ 22 rfl (w1.heap.size + 1) 5 i0 (.int .u8 0) 1 1 Try.underlying22 hi hi0 hi1 hi2 rfl (by decide) (.slice A2 m c2') m _ rfl ((HOUT.out.own.kept HKW.out).kept hk4) (some ⟨w3.heap.size, 0, none⟩) 1 1 (bytesV [shadeU x]) rfl rfl (Row.new_at _ _ _ _ _ _ (shade_one x) rfl) (bytesV_one _) (by unfold maxLen; omega) (by omega) (by have := hk4.size; omega) ?_; intro v5 w5 hown5 hg5 hat5; have hS5 := SK.out _ w5 hk4 hg5; obtain ⟨A5, c5, rfl, -, -, -, -, -⟩ := hown5.form; have hS6 := hS5.1; have ef := (hS5.2.frozen (p := ⟨w1.heap.size, 2, none⟩) (by simp)).trans HOUT.out.free)
      refine hK.out _ _ ?_ (fun hHeld => ?_)
      · first | exact HS4.out | assumption | exact hS4
      clear hK K
      try simp only [Act.put, List.setIfInBounds_toArray]
      refine wpAnyL_one (i := 6) (by kernel_rfl) rfl (fun K hK => ?_)
      go_simp
      refine hK.out _ _ ?_ (fun hHeld => ?_)
      · first | exact HS4.out | assumption | exact hS4
      clear hK K
      try simp only [Act.put, List.setIfInBounds_toArray, List.set_cons_zero, List.set_cons_succ]
      refine wpAnyL_end (by kernel_rfl) rfl (fun K hK => ?_)
      go_simp
      refine hK.out _ _ ?_
      clear hK K
      try simp only [Act.put, List.setIfInBounds_toArray, List.set_cons_zero, List.set_cons_succ]
      refine wpAnyL_done (by kernel_rfl) ?_ _
      have HG := hide (HOUT.out.grow hS5.2 hown5)
      clear hown5 hg5 hat5 ef hS5 hS6 hk3 hk3' hS3 hk4 hS4
      go_wp2
      go_roundg gh
      case measure => omega
      case rel =>
        refine ⟨k + 1, m + 1, A5, c5, by omega, by go_num, ?_⟩
        have h9 := HG.out
        rw [← HNX.out] at h9
        exact h9
theorem of_any (T : TilD) (A : Option Addr) (n c : Nat) (w : World) (h : TilAt w T A n c) :
    Calls Try.prog 37 #[.agg #[.int .i64 T.x, .int .i64 T.y, .int .i64 T.a, .int .i64 T.d, .slice A n c]] w (PutPost w (ofE T n) T.pic) := by
  cases hT : tileB T.x T.y T.a T.d n with
  | false => simpa [ofE, hT] using of_bad T A n c w T.pic h hT
  | true => simpa [ofE, hT] using of_good T A n c w h hT
end Go.Proofs.Ytbhgcbgaadnfpaa
