/- The laws' own helpers on memory: lent, kept, held. -/
import Derived.Test.YtbhgcbgaadnfpaaHeld
import Derived.Test.YtbhgcbgaadnfpaaRefR
namespace Go.Proofs.Ytbhgcbgaadnfpaa
open Go.RowKit

set_option maxRecDepth 100000 in
set_option maxHeartbeats 800000 in
theorem lent_any (a d : Int) (A : Option Addr) (n c : Nat) (g : List UInt8) (w : World) (hn : n + 1 ≤ 140737488355328) (hl : g.length = n) (hr : Row w A (bytesV g)) :
    Calls Try.prog 12 #[.agg #[.int .i64 a, .int .i64 d, .slice A n c]] w fun e w' => ∃ A' c', e = .returned (.agg #[.int .i64 a, .int .i64 d, .slice A' n c']) ∧ Own w' w.heap.size 1 (.slice A' (n + 1) c') (n + 1) (bytesV (g ++ [77])) ∧ Kept w w' := by
  obtain ⟨i0, hi, hi0, hi1, hi2⟩ := info_parts info_u8
  have HL : Hid ((bytesV g).length = n * 1) := by show _ = _; rw [bytesV_length, hl, Nat.mul_one]
  clear hl
  go_enter Try.func12, Try.ntmps12
  go_wp2_with fail
  obtain ⟨W, hW⟩ : ∃ W, W = (w.alloc (.cells #[.int .i64 a, .int .i64 d, .slice A n c] 24)).alloc (.cells #[.int .i64 0, .int .i64 0, .slice none 0 0] 24) := ⟨_, rfl⟩
  have p0 : W.cell? ⟨w.heap.size, 0, none⟩ = some (.int .i64 a) := by rw [hW]; simp
  have p1 : W.cell? ⟨w.heap.size, 1, none⟩ = some (.int .i64 d) := by rw [hW]; simp
  have p2 : W.cell? ⟨w.heap.size, 2, none⟩ = some (.slice A n c) := by rw [hW]; simp
  have pf : W.frozen? ⟨w.heap.size, 2, none⟩ = false := by rw [hW, World.frozen?_alloc_old _ _ ⟨_, _, none⟩ (by simp)]; exact frozen_new _ _ _ _
  have r0 : W.cell? ⟨w.heap.size + 1, 0, none⟩ = some (.int .i64 0) := by rw [hW]; simp
  have r1 : W.cell? ⟨w.heap.size + 1, 1, none⟩ = some (.int .i64 0) := by rw [hW]; simp
  have r2 : W.cell? ⟨w.heap.size + 1, 2, none⟩ = some (.slice none 0 0) := by rw [hW]; simp
  have rf : ∀ o, W.frozen? ⟨w.heap.size + 1, o, none⟩ = false := fun o => by
    have := frozen_new (w.alloc (.cells #[.int .i64 a, .int .i64 d, .slice A n c] 24)) #[.int .i64 0, .int .i64 0, .slice none 0 0] 24 o
    rw [World.size_alloc] at this
    rw [hW]; exact this
  have hwz : w.heap.size + 2 = W.heap.size := by rw [hW]; simp
  have hR : Row W A (bytesV g) := by rw [hW]; exact (hr.alloc _).alloc _
  have hK := hide (show Kept w W by rw [hW]; exact ((Below.refl _ _).alloc (Nat.le_refl _) _).alloc (by simp) _)
  have hz' : w.heap.size < W.heap.size := by omega
  have hz2 : w.heap.size + 1 < W.heap.size := by omega
  rw [← hW]
  clear hW hr
  go_cut [] (fun wx => ∃ A5 c5 w5, wx = World.setCell w5 ⟨w.heap.size, 2, none⟩ (.slice A5 n c5) ∧ Own w5 W.heap.size 1 (.slice A5 (n + 1) c5) (n + 1) (bytesV (g ++ [77])) ∧ Below W.heap.size W w5)
  case first =>
    clear r0 r1 r2 rf p0 p1
    have HNEW : Hid (Row (W.alloc (.cells #[.int .u8 77] 5)).drew (some ⟨W.heap.size, 0, none⟩) (bytesV [77])) := (Row.new_at _ _ _ _ _ _ rfl rfl).drew
    refine wp_region_L (fun w' => w'.cell? ⟨w.heap.size, 2, none⟩ = some (.slice A n c)) 10 (by kernel_rfl) ?_ (fun hHeld => ?_)
    · first | assumption | go_keep
    refine wpAnyL_take (i := 0) (v := ?_) (some 3) rfl rfl (by kernel_rfl) (by kernel_rfl) (by kernel_rfl) (by kernel_rfl) (fun _ _ _ h => h) (Or.inl ⟨by rfl, ?_⟩) (by assumption) ?_
    rotate_left
    · intro w hSw; (try dsimp only at hSw); go_simp; (try with_reducible rfl)
    try simp only [Act.put, List.setIfInBounds_toArray, List.set_cons_zero, List.set_cons_succ]
    refine wpAnyL_take (i := 1) (v := ?_) (some 4) rfl rfl (by kernel_rfl) (by kernel_rfl) (by kernel_rfl) (by kernel_rfl) (fun _ _ _ h => h) (Or.inl ⟨by rfl, ?_⟩) (by assumption) ?_
    rotate_left
    · intro w hSw; (try dsimp only at hSw); go_simp; (try with_reducible rfl)
    try simp only [Act.put, List.setIfInBounds_toArray, List.set_cons_zero, List.set_cons_succ]
    refine wpAnyL_take (i := 5) (v := ?_) (some 8) rfl rfl (by kernel_rfl) (by kernel_rfl) (by kernel_rfl) (by kernel_rfl) (fun _ _ _ h => h) (Or.inl ⟨by rfl, ?_⟩) (by assumption) ?_
    rotate_left
    · intro w hSw; (try dsimp only at hSw); go_simp; (try with_reducible rfl)
    try simp only [Act.put, List.setIfInBounds_toArray, List.set_cons_zero, List.set_cons_succ]
    refine wpAnyL_take (i := 6) (v := ?_) (some 9) rfl rfl (by kernel_rfl) (by kernel_rfl) (by kernel_rfl) (by kernel_rfl) (fun _ _ _ h => h) (Or.inl ⟨by rfl, ?_⟩) (by assumption) ?_
    rotate_left
    · intro w hSw; (try dsimp only at hSw); go_simp; (try with_reducible rfl)
    try simp only [Act.put, List.setIfInBounds_toArray, List.set_cons_zero, List.set_cons_succ]
    refine wpAnyL_take (i := 7) (v := ?_) (some 10) rfl rfl (by kernel_rfl) (by kernel_rfl) (by kernel_rfl) (by kernel_rfl) (fun _ _ _ h => h) (Or.inl ⟨by rfl, ?_⟩) (by assumption) ?_
    rotate_left
    · intro w hSw; (try dsimp only at hSw); go_simp; (try with_reducible rfl)
    try simp only [Act.put, List.setIfInBounds_toArray, List.set_cons_zero, List.set_cons_succ]
    refine wpAnyL_two (i := 2) (j := 3) (by kernel_rfl) rfl rfl (fun K hK => ?_) (fun K hK => ?_)
    · skip
      (refine step_append_row _ rfl _ _ 22 rfl W.heap.size 5 i0 (.int .u8 0) 1 1 Try.underlying22 hi hi0 hi1 hi2 rfl (by decide) (.slice none 0 0) 0 [] rfl (Own.nil _ _ _) A n c (bytesV g) rfl HL.out hR (bytesV_one _) (by unfold maxLen; omega) (by omega) (by first | omega | (simp; done) | (simp; omega)) ?_; intro v3 w3 hown3 hg3 hat3; have hb3 : Below W.heap.size W w3 := below_append ((Below.refl _ W).drew) (Own.nil _ _ 1) (Nat.le_refl _) (by first | omega | (simp; done) | (simp; omega)) hg3; have e3 := (hb3.cell (p := ⟨w.heap.size, 2, none⟩) hz').trans p2)
      refine hK.out _ _ ?_ (fun hHeld => ?_)
      · first | assumption | go_keep
      clear hK K
      try simp only [Act.put, List.setIfInBounds_toArray]
      refine wpAnyL_one (i := 3) (by kernel_rfl) rfl (fun K hK => ?_)
      go_simp
      refine hK.out _ _ ?_ (fun hHeld => ?_)
      · first | assumption | go_keep
      clear hK K
      try simp only [Act.put, List.setIfInBounds_toArray, List.set_cons_zero, List.set_cons_succ]
      refine wpAnyL_one (i := 4) (by kernel_rfl) rfl (fun K hK => ?_)
      (refine step_append_row _ rfl _ _ 22 rfl W.heap.size 5 i0 (.int .u8 0) 1 1 Try.underlying22 hi hi0 hi1 hi2 rfl (by decide) v3 (0 + n) _ rfl (hown3.alloc _) (some ⟨w3.heap.size, 0, none⟩) 1 1 (bytesV [77]) rfl rfl (Row.new_at _ _ _ _ _ _ rfl rfl) (bytesV_one _) (by unfold maxLen; omega) (by omega) (by have := hb3.size; first | omega | (simp; done) | (simp; omega)) ?_; intro v5 w5 hown5 hg5 hat5; have hb5 : Below W.heap.size W w5 := below_append (hb3.alloc hb3.size _) (hown3.alloc _) (Nat.le_refl _) (by have := hb3.size; first | omega | (simp; done) | (simp; omega)) hg5; have e5 := (hb5.cell (p := ⟨w.heap.size, 2, none⟩) hz').trans p2; have ef := (hb5.frozen (p := ⟨w.heap.size, 2, none⟩) hz').trans pf; obtain ⟨A5, c5, rfl, hv1, hv2, -, -, -⟩ := hown5.form; have hv6 : n ≤ c5 := (by omega); have hv7 : (n : Int) ≤ (c5 : Int) := (by omega))
      refine hK.out _ _ ?_ (fun hHeld => ?_)
      · first | assumption | go_keep
      clear hK K
      try simp only [Act.put, List.setIfInBounds_toArray]
      refine wpAnyL_one (i := 8) (by kernel_rfl) rfl (fun K hK => ?_)
      go_simp
      refine hK.out _ _ ?_ (fun hHeld => ?_)
      · first | assumption | go_keep
      clear hK K
      try simp only [Act.put, List.setIfInBounds_toArray, List.set_cons_zero, List.set_cons_succ]
      refine wpAnyL_one (i := 9) (by kernel_rfl) rfl (fun K hK => ?_)
      go_simp
      refine hK.out _ _ ?_ (fun hHeld => ?_)
      · first | assumption | go_keep
      clear hK K
      try simp only [Act.put, List.setIfInBounds_toArray, List.set_cons_zero, List.set_cons_succ]
      refine wpAnyL_end (by kernel_rfl) rfl (fun K hK => ?_)
      go_simp
      refine hK.out _ _ ?_
      clear hK K
      try simp only [Act.put, List.setIfInBounds_toArray, List.set_cons_zero, List.set_cons_succ]
      refine wpAnyL_done (by kernel_rfl) ?_ _
      go_wp2_with fail
      go_meet
      exact ⟨_, _, w5, rfl, by rw [bytesV_append]; simpa [Nat.zero_add] using hown5, hb5⟩
    · skip
      go_simp
      refine hK.out _ _ ?_ (fun hHeld => ?_)
      · first | assumption | go_keep
      clear hK K
      try simp only [Act.put, List.setIfInBounds_toArray, List.set_cons_zero, List.set_cons_succ]
      refine wpAnyL_one (i := 2) (by kernel_rfl) rfl (fun K hK => ?_)
      (refine step_append_row _ rfl _ _ 22 rfl W.heap.size 5 i0 (.int .u8 0) 1 1 Try.underlying22 hi hi0 hi1 hi2 rfl (by decide) (.slice none 0 0) 0 [] rfl (Own.nil _ _ _) A n c (bytesV g) rfl HL.out (hR.alloc _) (bytesV_one _) (by unfold maxLen; omega) (by omega) (by first | omega | (simp; done) | (simp; omega)) ?_; intro v3 w3 hown3 hg3 hat3; have hb3 : Below W.heap.size W w3 := below_append (((Below.refl _ W).drew.alloc (Nat.le_refl _) _)) (Own.nil _ _ 1) (Nat.le_refl _) (by first | omega | (simp; done) | (simp; omega)) hg3; have e3 := (hb3.cell (p := ⟨w.heap.size, 2, none⟩) hz').trans p2)
      refine hK.out _ _ ?_ (fun hHeld => ?_)
      · first | assumption | go_keep
      clear hK K
      try simp only [Act.put, List.setIfInBounds_toArray]
      refine wpAnyL_one (i := 4) (by kernel_rfl) rfl (fun K hK => ?_)
      (refine step_append_row _ rfl _ _ 22 rfl W.heap.size 5 i0 (.int .u8 0) 1 1 Try.underlying22 hi hi0 hi1 hi2 rfl (by decide) v3 (0 + n) _ rfl hown3 (some ⟨W.heap.size, 0, none⟩) 1 1 (bytesV [77]) rfl rfl (HNEW.out.grown hg3 (fun b off _ => by simp [Value.ownBlock])) (bytesV_one _) (by unfold maxLen; omega) (by omega) (by have := hb3.size; first | omega | (simp; done) | (simp; omega)) ?_; intro v5 w5 hown5 hg5 hat5; have hb5 : Below W.heap.size W w5 := below_append (hb3) hown3 (Nat.le_refl _) (by have := hb3.size; first | omega | (simp; done) | (simp; omega)) hg5; have e5 := (hb5.cell (p := ⟨w.heap.size, 2, none⟩) hz').trans p2; have ef := (hb5.frozen (p := ⟨w.heap.size, 2, none⟩) hz').trans pf; obtain ⟨A5, c5, rfl, hv1, hv2, -, -, -⟩ := hown5.form; have hv6 : n ≤ c5 := (by omega); have hv7 : (n : Int) ≤ (c5 : Int) := (by omega))
      refine hK.out _ _ ?_ (fun hHeld => ?_)
      · first | assumption | go_keep
      clear hK K
      try simp only [Act.put, List.setIfInBounds_toArray]
      refine wpAnyL_one (i := 8) (by kernel_rfl) rfl (fun K hK => ?_)
      go_simp
      refine hK.out _ _ ?_ (fun hHeld => ?_)
      · first | assumption | go_keep
      clear hK K
      try simp only [Act.put, List.setIfInBounds_toArray, List.set_cons_zero, List.set_cons_succ]
      refine wpAnyL_one (i := 9) (by kernel_rfl) rfl (fun K hK => ?_)
      go_simp
      refine hK.out _ _ ?_ (fun hHeld => ?_)
      · first | assumption | go_keep
      clear hK K
      try simp only [Act.put, List.setIfInBounds_toArray, List.set_cons_zero, List.set_cons_succ]
      refine wpAnyL_end (by kernel_rfl) rfl (fun K hK => ?_)
      go_simp
      refine hK.out _ _ ?_
      clear hK K
      try simp only [Act.put, List.setIfInBounds_toArray, List.set_cons_zero, List.set_cons_succ]
      refine wpAnyL_done (by kernel_rfl) ?_ _
      go_wp2_with fail
      go_meet
      exact ⟨_, _, w5, rfl, by rw [bytesV_append]; simpa [Nat.zero_add] using hown5, hb5⟩
  case rest =>
    obtain ⟨A5, c5, w5, rfl, hown, hb⟩ := hcut
    have e0 := (hb.cell (p := ⟨w.heap.size, 0, none⟩) hz').trans p0
    have e1 := (hb.cell (p := ⟨w.heap.size, 1, none⟩) hz').trans p1
    have e2 := (hb.cell (p := ⟨w.heap.size, 2, none⟩) hz').trans p2
    have s0 := (hb.cell (p := ⟨w.heap.size + 1, 0, none⟩) hz2).trans r0
    have s1 := (hb.cell (p := ⟨w.heap.size + 1, 1, none⟩) hz2).trans r1
    have s2 := (hb.cell (p := ⟨w.heap.size + 1, 2, none⟩) hz2).trans r2
    have t0 := (hb.frozen (p := ⟨w.heap.size + 1, 0, none⟩) hz2).trans (rf 0)
    have t1 := (hb.frozen (p := ⟨w.heap.size + 1, 1, none⟩) hz2).trans (rf 1)
    have t2 := (hb.frozen (p := ⟨w.heap.size + 1, 2, none⟩) hz2).trans (rf 2)
    have z5 := hb.size
    have hz5 : w.heap.size + 1 < w5.heap.size := by omega
    have hz6 : w.heap.size < w5.heap.size := by omega
    have HO := hide hown
    have HB := hide hb
    clear hown hb p0 p1 p2 pf r0 r1 r2 rf hR HL z5
    go_wp2
    refine bodyPost_ret (v := .agg #[.int .i64 a, .int .i64 d, .slice A5 n c5]) (by simp [results, Try.results12, go_sem, s0, s1, s2]) rfl ⟨A5, c5, rfl, ?_, ?_⟩
    · have h9 := HO.out.less (base' := w.heap.size) (by omega)
      have hne : ∀ k b, b < W.heap.size → (Value.slice A5 (n + 1) c5).ownBlock = some k → k ≠ b := fun k b hb hk => by have := (HO.out.lt k hk).1; omega
      exact (((h9.far (p := ⟨w.heap.size, 2, none⟩) (hne · _ hz') _).far (p := ⟨w.heap.size + 1, 0, none⟩) (hne · _ hz2) _).far (p := ⟨w.heap.size + 1, 1, none⟩) (hne · _ hz2) _).far (p := ⟨w.heap.size + 1, 2, none⟩) (hne · _ hz2) _
    · exact ((((hK.out.trans (HB.out.mono (by omega))).setCell (by simp) _).setCell (by simp) _).setCell (by simp) _).setCell (by simp) _
end Go.Proofs.Ytbhgcbgaadnfpaa
