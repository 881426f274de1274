/- The law PictureOne: what is no picture. -/
import Derived.Test.YtbhgcbgaadnfpaaOneN
namespace Go.Proofs.Ytbhgcbgaadnfpaa
open Go.RowKit Go.Shelf

set_option maxRecDepth 100000 in
set_option maxHeartbeats 3200000 in
theorem one_bad (a d a' d' : Int) (A A' : Option Addr) (n c n' c' : Nat) (g g' : List UInt8) (col row most : Int) (w : World) (ha : -9223372036854775808 ≤ a) (ha' : a ≤ 9223372036854775807) (hd : -9223372036854775808 ≤ d) (hd' : d ≤ 9223372036854775807)
    (hn : n + 1 ≤ 140737488355328) (_ : n ≤ c) (hl : g.length = n) (hl' : g'.length = n') (hr : Row w A (bytesV g)) (hr' : Row w A' (bytesV g')) (hm : mayB a d n = false) :
    Calls Try.prog 6 #[.agg #[.int .i64 a, .int .i64 d, .slice A n c], .agg #[.int .i64 a', .int .i64 d', .slice A' n' c'], .int .i64 col, .int .i64 row, .int .i64 most] w fun e w' => e = .returned (.bool true) ∧ Kept w w' := by
  have HR := hide hr
  have HR' := hide hr'
  have HL := hide hl
  have HL' := hide hl'
  clear hr hr' hl hl'
  obtain ⟨W0, hW0⟩ : ∃ W0, W0 = (((w.alloc (.cells #[.int .i64 a, .int .i64 d, .slice A n c] 24)).alloc (.cells #[.int .i64 a', .int .i64 d', .slice A' n' c'] 24)).alloc (.cells #[.int .i64 most] 3)).alloc (.cells #[.bool false] 4) := ⟨_, rfl⟩
  refine callsIn_wide.1 (callsIn_of_wp_marks (n := 5) Try.func6 rfl trivial ?_ rfl)
  simp only [Try.ntmps6, List.size_toArray, List.length_cons, List.length_nil, Nat.reduceAdd, Nat.reduceSub, Array.replicate_succ, Array.replicate_zero, List.push_toArray, List.append_toArray, List.nil_append, List.cons_append]
  refine wpIn_wide.2 ?_
  refine wp_mono (Q := NoPan _) ?_ noPan_of
  go_wp2_with fail
  rw [← hW0]
  have sz0 : W0.heap.size = w.heap.size + 4 := by rw [hW0]; simp
  have K0 : Hid (Kept w W0) := by rw [hW0]; exact ((((Below.refl _ _).alloc (Nat.le_refl _) _).alloc (by simp) _).alloc (by first | (simp; done) | (simp; omega)) _).alloc (by first | (simp; done) | (simp; omega)) _
  have B0 : Hid (Box W0 w.heap.size (.int .i64 a) (.int .i64 d) (.slice A n c) ∧ Box W0 (w.heap.size + 1) (.int .i64 a') (.int .i64 d') (.slice A' n' c') ∧ W0.cell? ⟨w.heap.size + 1 + 1, 0, none⟩ = some (.int .i64 most) ∧ W0.cell? ⟨w.heap.size + 1 + 1 + 1, 0, none⟩ = some (.bool false) ∧ W0.frozen? ⟨w.heap.size + 1 + 1 + 1, 0, none⟩ = false) := by
    have e3 := frozen_fresh (((w.alloc (.cells #[.int .i64 a, .int .i64 d, .slice A n c] 24)).alloc (.cells #[.int .i64 a', .int .i64 d', .slice A' n' c'] 24)).alloc (.cells #[.int .i64 most] 3)) #[.bool false] 4 0
    have c1 := (Boxed.new ((w.alloc (.cells #[.int .i64 a, .int .i64 d, .slice A n c] 24)).alloc (.cells #[.int .i64 a', .int .i64 d', .slice A' n' c'] 24)) 3 (.int .i64 most)).alloc (.cells #[.bool false] 4)
    have c2 := (Boxed.new (((w.alloc (.cells #[.int .i64 a, .int .i64 d, .slice A n c] 24)).alloc (.cells #[.int .i64 a', .int .i64 d', .slice A' n' c'] 24)).alloc (.cells #[.int .i64 most] 3)) 4 (.bool false)).cell
    have c1 := c1.cell
    simp only [World.size_alloc] at e3 c1 c2
    rw [hW0]
    exact ⟨(((Box.new w _ _ _ 24 _ rfl).alloc _).alloc _).alloc _, ((Box.new (w.alloc (.cells #[.int .i64 a, .int .i64 d, .slice A n c] 24)) _ _ _ 24 _ (by simp)).alloc _).alloc _, c1, c2, e3⟩
  clear hW0
  refine (lent_any a d A n c g W0 hn HL.out (HR.out.kept K0.out)).mono ?_
  rintro e w1 ⟨A1, c1, rfl, ho1, hk1⟩
  obtain ⟨X1, hX1⟩ : ∃ X, X = w1.alloc (.cells #[.int .i64 a, .int .i64 d, .slice A1 n c1] 24) := ⟨_, rfl⟩
  have hkX1 : Kept w1 X1 := by rw [hX1]; exact (Below.refl _ _).alloc (Nat.le_refl _) _
  have O1 := hide (ho1.kept hkX1)
  have HC1 : Hid (n ≤ c1) := by obtain ⟨A', c', hv, h1, -, -, -, -⟩ := ho1.form; injection hv with _ _ h3; show n ≤ c1; omega
  have B11 : Hid (Box X1 w1.heap.size (.int .i64 a) (.int .i64 d) (.slice A1 n c1)) := by rw [hX1]; exact Box.new _ _ _ _ _ _ rfl
  have K01 := hide (hk1.trans' hkX1)
  have sz1 := hk1.size
  have sX1 : X1.heap.size = w1.heap.size + 1 := by rw [hX1]; simp
  obtain ⟨⟨p0, p1, p2⟩, -⟩ := And.intro (B0.out.1.kept K01.out) trivial
  clear hk1 ho1 hkX1
  go_upto_region 2 with fail
  rw [← hX1]
  clear hX1
  go_wp2_with fail
  refine (may_any a d A n c X1 ha ha' hd hd' (by omega)).mono ?_
  rintro e w2 ⟨rfl, hk2⟩
  rw [hm]
  obtain ⟨X, hX⟩ : ∃ X, X = w2.alloc (.cells #[.bool false] 4) := ⟨_, rfl⟩
  have hkX : Kept w2 X := by rw [hX]; exact (Below.refl _ _).alloc (Nat.le_refl _) _
  have KX0 := hide (K01.out.trans' (hk2.trans' hkX))
  have sz2 := hk2.size
  have sX : X.heap.size = w2.heap.size + 1 := by rw [hX]; simp
  have hON : OneAt X w.heap.size (w.heap.size + 1) (w.heap.size + 1 + 1) (w.heap.size + 1 + 1 + 1) w1.heap.size w2.heap.size a d a' d' A A' A1 n c n' c' c1 most false := by
    obtain ⟨b1, b2, b3, b4, b5⟩ := B0.out
    obtain ⟨u0, u1, u2⟩ := b1.kept KX0.out
    obtain ⟨v0, v1, v2⟩ := b2.kept KX0.out
    obtain ⟨t0, t1, t2⟩ := (B11.out.kept hk2).kept hkX
    exact ⟨u0, u1, u2, v0, v1, v2, (KX0.out.cells _ _ (lt_of_cell b3)).trans b3, (KX0.out.cells _ _ (lt_of_cell b4)).trans b4, t0, t1, t2, by rw [hX]; exact (Boxed.new w2 4 (.bool false)).cell, (KX0.out.thaw _ _ (lt_of_cell b4)).trans b5⟩
  have O2 := hide ((O1.out.kept hk2).kept hkX)
  have ON := hide hON
  have KX := hide (K0.out.trans (KX0.out.mono K0.out.size))
  have HSZ : Hid (w.heap.size + 4 ≤ w1.heap.size ∧ w1.heap.size < w2.heap.size ∧ w2.heap.size < X.heap.size) := ⟨by omega, by omega, by omega⟩
  clear hON hk2 hkX p0 p1 p2 B0 B11 K0 K01 KX0 O1
  go_upto_region 3 with fail
  rw [← hX]
  clear hX sz0 sz1 sX1 sz2 sX
  have CK : Hid (∀ W, Calls Try.prog 20 #[.agg #[.int .i64 a, .int .i64 d, .slice A1 n c1]] W fun e w' => e = .returned (.int .i64 (if false then 0 else 290)) ∧ Kept W w') := fun W => by
    have := check_any a d A1 n c1 W ha ha' hd hd' (by omega)
    unfold checkI at this
    rwa [hm] at this
  have OR : Hid (∀ W, Kept X W → Row W A1 (bytesV g)) := fun W hW => by
    have := (O2.out.kept hW).row.take n
    rw [bytesV_take] at this
    rwa [List.take_append_of_le_length (by have := HL.out; omega), List.take_of_length_le (by have := HL.out; omega)] at this
  obtain ⟨sB, hsB⟩ : ∃ sB, sB = sameB a d a' d' g g' := ⟨_, rfl⟩
  have CS1 : Hid (∀ W, Kept X W → Calls Try.prog 21 #[.agg #[.int .i64 a, .int .i64 d, .slice A1 n c1], .agg #[.int .i64 a', .int .i64 d', .slice A' n' c']] W fun e w' => e = .returned (.bool sB) ∧ Kept W w') := fun W hW => by
    rw [hsB]; exact same_any a d a' d' A1 A' n c1 n' c' g g' W (by omega) HL.out HL'.out (OR.out W hW) (HR'.out.kept (KX.out.trans (hW.mono KX.out.size)))
  have CS2 : Hid (∀ W, Kept X W → Calls Try.prog 25 #[.agg #[.int .i64 a, .int .i64 d, .slice A n c], .agg #[.int .i64 a', .int .i64 d', .slice A' n' c']] W fun e w' => e = .returned (.bool sB) ∧ Kept W w') := fun W hW => by
    rw [hsB]; exact rsame_any a d a' d' A A' n c n' c' g g' W HL.out HL'.out (HR.out.kept (KX.out.trans (hW.mono KX.out.size))) (HR'.out.kept (KX.out.trans (hW.mono KX.out.size)))
  have CS3 : Hid (∀ W, Kept X W → Calls Try.prog 21 #[.agg #[.int .i64 a, .int .i64 d, .slice A1 n c1], .agg #[.int .i64 a, .int .i64 d, .slice A n c]] W fun e w' => e = .returned (.bool true) ∧ Kept W w') := fun W hW => by
    have := same_any a d a d A1 A n c1 n c g g W (by omega) HL.out HL.out (OR.out W hW) (HR.out.kept (KX.out.trans (hW.mono KX.out.size)))
    rwa [show sameB a d a d g g = true by simp [sameB]] at this
  clear hsB
  obtain ⟨N5, hN5⟩ : ∃ N, N = w.heap.size := ⟨_, rfl⟩
  obtain ⟨N6, hN6⟩ : ∃ N, N = w.heap.size + 1 := ⟨_, rfl⟩
  obtain ⟨N9, hN9⟩ : ∃ N, N = w.heap.size + 1 + 1 := ⟨_, rfl⟩
  obtain ⟨N10, hN10⟩ : ∃ N, N = w.heap.size + 1 + 1 + 1 := ⟨_, rfl⟩
  obtain ⟨N11, hN11⟩ : ∃ N, N = w1.heap.size := ⟨_, rfl⟩
  obtain ⟨N12, hN12⟩ : ∃ N, N = w2.heap.size := ⟨_, rfl⟩
  have HNW : Hid (w.heap.size ≤ N10 ∧ w.heap.size ≤ X.heap.size) := ⟨by omega, by have := HSZ.out; omega⟩
  rw [← hN10, ← hN9, ← hN6, ← hN5, ← hN11, ← hN12] at ON
  rw [← hN10, ← hN9, ← hN6, ← hN5, ← hN11, ← hN12]
  have S0 : Hid (∀ W, Kept X W → W.cell? ⟨N5, 0, none⟩ = some (.int .i64 a) ∧ W.cell? ⟨N5, 1, none⟩ = some (.int .i64 d) ∧ W.cell? ⟨N5, 2, none⟩ = some (.slice A n c) ∧ W.cell? ⟨N6, 0, none⟩ = some (.int .i64 a') ∧ W.cell? ⟨N6, 1, none⟩ = some (.int .i64 d') ∧ W.cell? ⟨N6, 2, none⟩ = some (.slice A' n' c') ∧ W.cell? ⟨N9, 0, none⟩ = some (.int .i64 most) ∧ W.cell? ⟨N10, 0, none⟩ = some (.bool false) ∧ W.cell? ⟨N11, 0, none⟩ = some (.int .i64 a) ∧ W.cell? ⟨N11, 1, none⟩ = some (.int .i64 d) ∧ W.cell? ⟨N11, 2, none⟩ = some (.slice A1 n c1) ∧ W.cell? ⟨N12, 0, none⟩ = some (.bool false)) := fun W hW => by
    have h := ON.out.kept hW
    exact ⟨h.p0, h.p1, h.p2, h.q0, h.q1, h.q2, h.m0, h.r0, h.o0, h.o1, h.o2, h.k0⟩
  clear hN5 hN6 hN9 hN10 hN11 hN12
  have KD : Hid (Kept X X.drew) := (Below.refl _ X).drew
  have HS0 := hide (S0.out X.drew KD.out)
  rw [if_neg (by decide)] at CK
  refine wp_region_L (fun X' => X'.cell? ⟨N5, 0, none⟩ = some (.int .i64 a) ∧ X'.cell? ⟨N5, 1, none⟩ = some (.int .i64 d) ∧ X'.cell? ⟨N5, 2, none⟩ = some (.slice A n c) ∧ X'.cell? ⟨N6, 0, none⟩ = some (.int .i64 a') ∧ X'.cell? ⟨N6, 1, none⟩ = some (.int .i64 d') ∧ X'.cell? ⟨N6, 2, none⟩ = some (.slice A' n' c') ∧ X'.cell? ⟨N9, 0, none⟩ = some (.int .i64 most) ∧ X'.cell? ⟨N10, 0, none⟩ = some (.bool false) ∧ X'.cell? ⟨N11, 0, none⟩ = some (.int .i64 a) ∧ X'.cell? ⟨N11, 1, none⟩ = some (.int .i64 d) ∧ X'.cell? ⟨N11, 2, none⟩ = some (.slice A1 n c1) ∧ X'.cell? ⟨N12, 0, none⟩ = some (.bool false)) 999 (by kernel_rfl) ?_ (fun hHeld => ?_)
  · first | exact HS0.out | assumption
  refine wpAnyL_take (i := 0) (v := ?_) (some 29) rfl rfl (by kernel_rfl) (by kernel_rfl) (by kernel_rfl) (by kernel_rfl) (fun _ _ _ h => h) (Or.inl ⟨by rfl, ?_⟩) (by assumption) ?_
  rotate_left
  · intro w hSw; (try dsimp only at hSw); go_simp; (try with_reducible rfl)
  try simp only [Act.put, List.setIfInBounds_toArray, List.set_cons_zero, List.set_cons_succ]
  refine wpAnyL_take (i := 3) (v := ?_) (some 32) rfl rfl (by kernel_rfl) (by kernel_rfl) (by kernel_rfl) (by kernel_rfl) (fun _ _ _ h => h) (Or.inl ⟨by rfl, ?_⟩) (by assumption) ?_
  rotate_left
  · intro w hSw; (try dsimp only at hSw); go_simp; (try with_reducible rfl)
  try simp only [Act.put, List.setIfInBounds_toArray, List.set_cons_zero, List.set_cons_succ]
  refine wpAnyL_one (i := 1) (by kernel_rfl) rfl (fun K hK => ?_)
  go_simp
  (refine (CK.out _).mono ?_; rintro e w3 ⟨rfl, hk3⟩; have K3 := hide (KD.out.trans' hk3); have hS3 := S0.out w3 K3.out; clear hk3)
  refine hK.out _ _ ?_ (fun hHeld => ?_)
  · first | exact HS0.out | assumption
  clear hK K
  try simp only [Act.put, List.setIfInBounds_toArray, List.set_cons_zero, List.set_cons_succ]
  refine wpAnyL_take (i := 2) (v := Value.bool false) (some 31) rfl rfl (by kernel_rfl) (by kernel_rfl) (by kernel_rfl) (by kernel_rfl) (fun _ _ _ h => h) (Or.inl ⟨by rfl, ?_⟩) (by assumption) ?_
  · intro w hSw; (try dsimp only at hSw); go_simp
  try simp only [Act.put, List.setIfInBounds_toArray, List.set_cons_zero, List.set_cons_succ]
  refine wpAnyL_take (i := 4) (v := Value.bool false) (some 33) rfl rfl (by kernel_rfl) (by kernel_rfl) (by kernel_rfl) (by kernel_rfl) (fun _ _ _ h => h) (Or.inl ⟨by rfl, ?_⟩) (by assumption) ?_
  · intro w hSw; (try dsimp only at hSw); go_simp
  try simp only [Act.put, List.setIfInBounds_toArray, List.set_cons_zero, List.set_cons_succ]
  refine wpAnyL_take (i := 5) (v := Value.bool false) (some 34) rfl rfl (by kernel_rfl) (by kernel_rfl) (by kernel_rfl) (by kernel_rfl) (fun _ _ _ h => h) (Or.inl ⟨by rfl, ?_⟩) (by assumption) ?_
  · intro w hSw; (try dsimp only at hSw); go_simp
  try simp only [Act.put, List.setIfInBounds_toArray, List.set_cons_zero, List.set_cons_succ]
  refine wpAnyL_take (i := 6) (v := ?_) (some 35) rfl rfl (by kernel_rfl) (by kernel_rfl) (by kernel_rfl) (by kernel_rfl) (fun _ _ _ h => h) (Or.inl ⟨by rfl, ?_⟩) (by assumption) ?_
  rotate_left
  · intro w hSw; (try dsimp only at hSw); go_simp; (try with_reducible rfl)
  try simp only [Act.put, List.setIfInBounds_toArray, List.set_cons_zero, List.set_cons_succ]
  refine wpAnyL_take (i := 7) (v := Value.bool true) (some 36) rfl rfl (by kernel_rfl) (by kernel_rfl) (by kernel_rfl) (by kernel_rfl) (fun _ _ _ h => h) (Or.inl ⟨by rfl, ?_⟩) (by assumption) ?_
  · intro w hSw; (try dsimp only at hSw); go_simp
  try simp only [Act.put, List.setIfInBounds_toArray, List.set_cons_zero, List.set_cons_succ]
  refine wpAnyL_take (i := 8) (v := Value.bool true) (some 37) rfl rfl (by kernel_rfl) (by kernel_rfl) (by kernel_rfl) (by kernel_rfl) (fun _ _ _ h => h) (Or.inl ⟨by rfl, ?_⟩) (by assumption) ?_
  · intro w hSw; (try dsimp only at hSw); go_simp
  try simp only [Act.put, List.setIfInBounds_toArray, List.set_cons_zero, List.set_cons_succ]
  refine wpAnyL_take (i := 9) (v := ?_) (some 38) rfl rfl (by kernel_rfl) (by kernel_rfl) (by kernel_rfl) (by kernel_rfl) (fun _ _ _ h => h) (Or.inl ⟨by rfl, ?_⟩) (by assumption) ?_
  rotate_left
  · intro w hSw; (try dsimp only at hSw); go_simp; (try with_reducible rfl)
  try simp only [Act.put, List.setIfInBounds_toArray, List.set_cons_zero, List.set_cons_succ]
  refine wpAnyL_one (i := 10) (by kernel_rfl) rfl (fun K hK => ?_)
  go_simp
  (refine (CK.out _).mono ?_; rintro e w7 ⟨rfl, hk7⟩; have K7 := hide (K3.out.trans' hk7); have hS7 := S0.out w7 K7.out; clear hk7)
  refine hK.out _ _ ?_ (fun hHeld => ?_)
  · first | exact HS0.out | assumption
  clear hK K
  try simp only [Act.put, List.setIfInBounds_toArray, List.set_cons_zero, List.set_cons_succ]
  refine wpAnyL_take (i := 11) (v := Value.bool false) (some 40) rfl rfl (by kernel_rfl) (by kernel_rfl) (by kernel_rfl) (by kernel_rfl) (fun _ _ _ h => h) (Or.inl ⟨by rfl, ?_⟩) (by assumption) ?_
  · intro w hSw; (try dsimp only at hSw); go_simp
  try simp only [Act.put, List.setIfInBounds_toArray, List.set_cons_zero, List.set_cons_succ]
  refine wpAnyL_take (i := 12) (v := Value.bool false) (some 41) rfl rfl (by kernel_rfl) (by kernel_rfl) (by kernel_rfl) (by kernel_rfl) (fun _ _ _ h => h) (Or.inl ⟨by rfl, ?_⟩) (by assumption) ?_
  · intro w hSw; (try dsimp only at hSw); go_simp
  try simp only [Act.put, List.setIfInBounds_toArray, List.set_cons_zero, List.set_cons_succ]
  refine wpAnyL_take (i := 13) (v := Value.bool false) (some 42) rfl rfl (by kernel_rfl) (by kernel_rfl) (by kernel_rfl) (by kernel_rfl) (fun _ _ _ h => h) (Or.inl ⟨by rfl, ?_⟩) (by assumption) ?_
  · intro w hSw; (try dsimp only at hSw); go_simp
  try simp only [Act.put, List.setIfInBounds_toArray, List.set_cons_zero, List.set_cons_succ]
  refine wpAnyL_take (i := 14) (v := Value.bool false) (some 43) rfl rfl (by kernel_rfl) (by kernel_rfl) (by kernel_rfl) (by kernel_rfl) (fun _ _ _ h => h) (Or.inl ⟨by rfl, ?_⟩) (by assumption) ?_
  · intro w hSw; (try dsimp only at hSw); go_simp
  try simp only [Act.put, List.setIfInBounds_toArray, List.set_cons_zero, List.set_cons_succ]
  refine wpAnyL_take (i := 15) (v := ?_) (some 44) rfl rfl (by kernel_rfl) (by kernel_rfl) (by kernel_rfl) (by kernel_rfl) (fun _ _ _ h => h) (Or.inl ⟨by rfl, ?_⟩) (by assumption) ?_
  rotate_left
  · intro w hSw; (try dsimp only at hSw); go_simp; (try with_reducible rfl)
  try simp only [Act.put, List.setIfInBounds_toArray, List.set_cons_zero, List.set_cons_succ]
  refine wpAnyL_take (i := 16) (v := ?_) (some 45) rfl rfl (by kernel_rfl) (by kernel_rfl) (by kernel_rfl) (by kernel_rfl) (fun _ _ _ h => h) (Or.inl ⟨by rfl, ?_⟩) (by assumption) ?_
  rotate_left
  · intro w hSw; (try dsimp only at hSw); go_simp; (try with_reducible rfl)
  try simp only [Act.put, List.setIfInBounds_toArray, List.set_cons_zero, List.set_cons_succ]
  refine wpAnyL_take (i := 18) (v := ?_) (some 47) rfl rfl (by kernel_rfl) (by kernel_rfl) (by kernel_rfl) (by kernel_rfl) (fun _ _ _ h => h) (Or.inl ⟨by rfl, ?_⟩) (by assumption) ?_
  rotate_left
  · intro w hSw; (try dsimp only at hSw); go_simp; (try with_reducible rfl)
  try simp only [Act.put, List.setIfInBounds_toArray, List.set_cons_zero, List.set_cons_succ]
  refine wpAnyL_take (i := 19) (v := ?_) (some 48) rfl rfl (by kernel_rfl) (by kernel_rfl) (by kernel_rfl) (by kernel_rfl) (fun _ _ _ h => h) (Or.inl ⟨by rfl, ?_⟩) (by assumption) ?_
  rotate_left
  · intro w hSw; (try dsimp only at hSw); go_simp; (try with_reducible rfl)
  try simp only [Act.put, List.setIfInBounds_toArray, List.set_cons_zero, List.set_cons_succ]
  refine wpAnyL_one (i := 17) (by kernel_rfl) rfl (fun K hK => ?_)
  go_simp
  (refine (CS1.out _ K7.out).mono ?_; rintro e w4 ⟨rfl, hk4⟩; have K4 := hide (K7.out.trans' hk4); have hS4 := S0.out w4 K4.out; clear hk4)
  refine hK.out _ _ ?_ (fun hHeld => ?_)
  · first | exact HS0.out | assumption
  clear hK K
  try simp only [Act.put, List.setIfInBounds_toArray, List.set_cons_zero, List.set_cons_succ]
  refine wpAnyL_one (i := 20) (by kernel_rfl) rfl (fun K hK => ?_)
  go_simp
  (refine (CS2.out _ K4.out).mono ?_; rintro e w5 ⟨rfl, hk5⟩; have K5 := hide (K4.out.trans' hk5); have hS5 := S0.out w5 K5.out; clear hk5)
  refine hK.out _ _ ?_ (fun hHeld => ?_)
  · first | exact HS0.out | assumption
  clear hK K
  try simp only [Act.put, List.setIfInBounds_toArray, List.set_cons_zero, List.set_cons_succ]
  refine wpAnyL_take (i := 21) (v := Value.bool false) (some 50) rfl rfl (by kernel_rfl) (by kernel_rfl) (by kernel_rfl) (by kernel_rfl) (fun _ _ _ h => h) (Or.inl ⟨by rfl, ?_⟩) (by assumption) ?_
  · intro w hSw; (try dsimp only at hSw); go_simp
  try simp only [Act.put, List.setIfInBounds_toArray, List.set_cons_zero, List.set_cons_succ]
  refine wpAnyL_take (i := 22) (v := Value.bool false) (some 51) rfl rfl (by kernel_rfl) (by kernel_rfl) (by kernel_rfl) (by kernel_rfl) (fun _ _ _ h => h) (Or.inl ⟨by rfl, ?_⟩) (by assumption) ?_
  · intro w hSw; (try dsimp only at hSw); go_simp
  try simp only [Act.put, List.setIfInBounds_toArray, List.set_cons_zero, List.set_cons_succ]
  refine wpAnyL_take (i := 23) (v := Value.bool false) (some 52) rfl rfl (by kernel_rfl) (by kernel_rfl) (by kernel_rfl) (by kernel_rfl) (fun _ _ _ h => h) (Or.inl ⟨by rfl, ?_⟩) (by assumption) ?_
  · intro w hSw; (try dsimp only at hSw); go_simp
  try simp only [Act.put, List.setIfInBounds_toArray, List.set_cons_zero, List.set_cons_succ]
  refine wpAnyL_take (i := 24) (v := ?_) (some 53) rfl rfl (by kernel_rfl) (by kernel_rfl) (by kernel_rfl) (by kernel_rfl) (fun _ _ _ h => h) (Or.inl ⟨by rfl, ?_⟩) (by assumption) ?_
  rotate_left
  · intro w hSw; (try dsimp only at hSw); go_simp; (try with_reducible rfl)
  try simp only [Act.put, List.setIfInBounds_toArray, List.set_cons_zero, List.set_cons_succ]
  refine wpAnyL_take (i := 25) (v := ?_) (some 54) rfl rfl (by kernel_rfl) (by kernel_rfl) (by kernel_rfl) (by kernel_rfl) (fun _ _ _ h => h) (Or.inl ⟨by rfl, ?_⟩) (by assumption) ?_
  rotate_left
  · intro w hSw; (try dsimp only at hSw); go_simp; (try with_reducible rfl)
  try simp only [Act.put, List.setIfInBounds_toArray, List.set_cons_zero, List.set_cons_succ]
  refine wpAnyL_one (i := 26) (by kernel_rfl) rfl (fun K hK => ?_)
  go_simp
  (refine (CS3.out _ K5.out).mono ?_; rintro e w6 ⟨rfl, hk6⟩; have K6 := hide (K5.out.trans' hk6); have hS6 := S0.out w6 K6.out; clear hk6)
  refine hK.out _ _ ?_ (fun hHeld => ?_)
  · first | exact HS0.out | assumption
  clear hK K
  try simp only [Act.put, List.setIfInBounds_toArray, List.set_cons_zero, List.set_cons_succ]
  refine wpAnyL_take (i := 27) (v := Value.bool false) (some 56) rfl rfl (by kernel_rfl) (by kernel_rfl) (by kernel_rfl) (by kernel_rfl) (fun _ _ _ h => h) (Or.inl ⟨by rfl, ?_⟩) (by assumption) ?_
  · intro w hSw; (try dsimp only at hSw); go_simp
  try simp only [Act.put, List.setIfInBounds_toArray, List.set_cons_zero, List.set_cons_succ]
  refine wpAnyL_take (i := 28) (v := Value.bool false) (some 57) rfl rfl (by kernel_rfl) (by kernel_rfl) (by kernel_rfl) (by kernel_rfl) (fun _ _ _ h => h) (Or.inl ⟨by rfl, ?_⟩) (by assumption) ?_
  · intro w hSw; (try dsimp only at hSw); go_simp
  try simp only [Act.put, List.setIfInBounds_toArray, List.set_cons_zero, List.set_cons_succ]
  refine wpAnyL_done (by kernel_rfl) ?_ _
  clear hS3 hS7 hS4 hS5 hS6 K3 K7 K4 K5 CS1 CS2 CS3 CK HS0 KD S0
  have HK6 := K6
  clear K6
  have PA : Hid (∀ W, Kept X W → PicAt W ⟨a, d, g⟩ A1 n c1) := fun W hW => ⟨HL.out, HC1.out, by omega, OR.out W hW, ha, ha', hd, hd'⟩
  have CA : Hid (∀ W, Kept X W → Calls Try.prog 26 #[.agg #[.int .i64 a, .int .i64 d, .slice A1 n c1], .int .i64 col, .int .i64 row] W fun e w' => e = .returned (.tuple #[.int .u8 0, .int .i64 290]) ∧ Kept W w') := fun W hW => by
    have := at_any ⟨a, d, g⟩ A1 n c1 col row W (PA.out W hW)
    have hmm : PicD.may ⟨a, d, g⟩ = false := by rw [PicD.may]; show mayB a d g.length = false; rw [HL.out]; exact hm
    rwa [show atG ⟨a, d, g⟩ col row = 0 by simp [atG, hmm], show atE ⟨a, d, g⟩ col row = 290 by simp [atE, hmm]] at this
  obtain ⟨Z, hZ⟩ : ∃ Z, Z = cntV [] := ⟨_, rfl⟩
  have CC : Hid (∀ W, Kept X W → Calls Try.prog 27 #[.agg #[.int .i64 a, .int .i64 d, .slice A1 n c1]] W fun e w' => e = .returned (.tuple #[.agg Z, .int .i64 290]) ∧ Kept W w') := fun W hW => by
    have := count_any a d A1 n c1 g W ha ha' hd hd' (by omega) HC1.out HL.out (OR.out W hW)
    rwa [hm, if_neg (by decide), ← hZ, show checkI a d n = 290 by simp [checkI, hm]] at this
  have hz51 : Try.zeroCells51 = Z := by rw [hZ, zero51]
  have Z1 : Hid (Z.size = 256) := by show _ = _; rw [hZ, cntV_size]
  have Z2 : Hid (Z.all (·.oneCell') = true) := by show _ = _; rw [hZ, cntV_one]
  have HZ := hide hZ
  clear hZ
  obtain ⟨p0, p1, p2, q0, q1, q2, m0, r0, o0, o1, o2, k0, rf⟩ := ON.out.kept HK6.out
  go_wp2_with fail
  refine (CA.out _ HK6.out).mono ?_
  rintro e w7 ⟨rfl, hk7⟩
  have HK7 := hide (HK6.out.trans' hk7)
  clear p0 p1 p2 q0 q1 q2 m0 r0 o0 o1 o2 k0 rf hk7
  obtain ⟨p0, p1, p2, q0, q1, q2, m0, r0, o0, o1, o2, k0, rf⟩ := ON.out.kept HK7.out
  go_wp2_with fail
  refine (CC.out _ HK7.out).mono ?_
  rintro e w8 ⟨rfl, hk8⟩
  have HK8 := hide (HK7.out.trans' hk8)
  clear p0 p1 p2 q0 q1 q2 m0 r0 o0 o1 o2 k0 rf hk8
  obtain ⟨p0, p1, p2, q0, q1, q2, m0, r0, o0, o1, o2, k0, rf⟩ := ON.out.kept HK8.out
  obtain ⟨X8, hX8⟩ : ∃ X8, X8 = w8.alloc (.cells Z 51) := ⟨_, rfl⟩
  have hkX8 : Kept w8 X8 := by rw [hX8]; exact (Below.refl _ _).alloc (Nat.le_refl _) _
  have HKX8 := hide (HK8.out.trans' hkX8)
  have HB15 : Hid (X8.heap[w8.heap.size]? = some (.cells Z 51 (0, 0))) := by show _ = _; rw [hX8]; exact heap_alloc_last w8 _
  have sX8 : Hid (X8.heap.size = w8.heap.size + 1) := by show _ = _; rw [hX8]; simp
  go_upto_region 7 with (refine wpList_store_row rfl 51 _ _ rfl w8.heap.size Z rfl rfl 51 Z (heap_alloc_last w8 _) (by rw [info51, Z1.out]) rfl Z2.out ?_; rw [World.setRow_alloc_new])
  rw [← hX8]
  clear hX8 hkX8 p0 p1 p2 q0 q1 q2 m0 r0 o0 o1 o2 k0 rf
  obtain ⟨X9, hX9⟩ : ∃ X9, X9 = X8.alloc (.cells Z 51) := ⟨_, rfl⟩
  have hkX9 : Kept X8 X9 := by rw [hX9]; exact (Below.refl _ _).alloc (Nat.le_refl _) _
  have HKX9 := hide (HKX8.out.trans' hkX9)
  have HB17 : Hid (X9.heap[X8.heap.size]? = some (.cells Z 51 (0, 0))) := by show _ = _; rw [hX9]; exact heap_alloc_last X8 _
  have sX9 : Hid (X9.heap.size = X8.heap.size + 1) := by show _ = _; rw [hX9]; simp
  replace HB15 : Hid (X9.heap[w8.heap.size]? = some (.cells Z 51 (0, 0))) := by show _ = _; rw [hX9, heap_alloc_old _ _ _ (by have := sX8.out; omega)]; exact HB15.out
  go_upto_region 8 with (refine wpList_store_row rfl 51 _ _ rfl X8.heap.size Z rfl rfl 51 Z (heap_alloc_last X8 _) (by rw [info51, Z1.out]) rfl Z2.out ?_; rw [World.setRow_alloc_new])
  rw [← hX9]
  clear hX9 hkX9
  obtain ⟨p0, p1, p2, q0, q1, q2, m0, r0, o0, o1, o2, k0, rf⟩ := ON.out.kept HKX9.out
  have hEQ : ∀ W, (Op.equalIn 10000 51 (.agg Z) (.agg Z)).run Try.prog W = .ok true W := fun W => by rw [HZ.out]; exact eq51 [] W
  go_wp2_with fail
  refine wp_load_row 51 _ rfl w8.heap.size rfl 51 Z (0, 0) _ HB15.out Try.underlying51 rfl (by rw [info51, Z1.out]) ?_
  go_wp2_with fail
  refine wp_load_row 51 _ rfl X8.heap.size rfl 51 Z (0, 0) _ HB17.out Try.underlying51 rfl (by rw [info51, Z1.out]) ?_
  go_wp2_with fail
  refine (rowsit_bad a d A1 n c1 X9 ha ha' hd hd' (by omega) hm).mono ?_
  rintro e w9 ⟨rfl, hk9⟩
  have HK9 := hide (HKX9.out.trans' hk9)
  clear p0 p1 p2 q0 q1 q2 m0 r0 o0 o1 o2 k0 rf hk9 hz51 HB15 HB17 hEQ sX8 sX9
  have hfn : ∀ W, (binOp .eql 55 (.func (.func 52) #[] #[]) .nilFunc).run Try.prog W = .ok (.bool false) W := fun W => by kernel_rfl
  obtain ⟨p0, p1, p2, q0, q1, q2, m0, r0, o0, o1, o2, k0, rf⟩ := ON.out.kept HK9.out
  go_wp2_with fail
  refine rounds_bad (X := w9) (B := w9.heap.size) rfl (ON.out.kept HK9.out) ((Below.refl _ w9).alloc (Nat.le_refl _) _) (Nat.le_refl _) (by simp) (frozen_fresh _ _ _ _) ?_
  intros
  rename_i W9 hk10 hdef
  have HK10 : Hid (Kept X W9) := HK9.out.trans' hk10
  have HDF := hide hdef
  have hs910 : w9.heap.size ≤ W9.heap.size := hk10.size
  have hw9 : w.heap.size ≤ w9.heap.size := by have := HK9.out.size; have := HNW.out; omega
  clear p0 p1 p2 q0 q1 q2 m0 r0 o0 o1 o2 k0 rf hk10 hdef hfn
  obtain ⟨p0, p1, p2, q0, q1, q2, m0, r0, o0, o1, o2, k0, rf⟩ := ON.out.kept HK10.out
  dsimp only
  go_wp2_with fail
  refine (kept_any a d _ A1 n c c1 _ g W9 hn HL.out (HR.out.kept (KX.out.trans (HK10.out.mono KX.out.size))) (O2.out.kept HK10.out)).mono ?_
  rintro e w11 ⟨rfl, hk11⟩
  have HS911 : w9.heap.size ≤ w11.heap.size := Nat.le_trans hs910 hk11.size
  have HK11 := hide (HK10.out.trans' hk11)
  have HDF11 : Hid (Defs w9.heap.size w11 _) := HDF.out.keeps fun k o h _ => (hk11.block k (Array.getElem?_eq_some_iff.1 h).1).trans h
  clear p0 p1 p2 q0 q1 q2 m0 r0 o0 o1 o2 k0 rf hk11
  obtain ⟨p0, p1, p2, q0, q1, q2, m0, r0, o0, o1, o2, k0, rf⟩ := ON.out.kept HK11.out
  go_wp2_with fail
  refine (awake_any _).mono ?_
  rintro e w12 ⟨rfl, hk12⟩
  have HS912 : w9.heap.size ≤ w12.heap.size := Nat.le_trans HS911 hk12.size
  have HK12 := hide (HK11.out.trans' hk12)
  have HDF12 : Hid (Defs w9.heap.size w12 _) := HDF11.out.keeps fun k o h _ => (hk12.block k (Array.getElem?_eq_some_iff.1 h).1).trans h
  clear p0 p1 p2 q0 q1 q2 m0 r0 o0 o1 o2 k0 rf hk12
  have HKw := hide (HK9.out)
  obtain ⟨p0, p1, p2, q0, q1, q2, m0, r0, o0, o1, o2, k0, rf⟩ := ON.out.kept HK12.out
  have HE : Hid ((w12.setCell ⟨N10, 0, none⟩ (.bool true)).cell? ⟨N10, 0, none⟩ = some (.bool true)) := World.cell?_setCell_same _ _ _ r0
  have HKE : Hid (Kept w (w12.setCell ⟨N10, 0, none⟩ (.bool true))) := (KX.out.trans (HK12.out.mono KX.out.size)).setCell HNW.out.1 _
  have hsz9 : w9.heap.size ≤ w12.heap.size := HS912
  go_wp2_with fail
  refine leaves_defs (lo := w9.heap.size) _ _ (HDF12.out.keeps fun k o h hc => (KeepsOthers.setCell w12 _ _).same k o h hc) (fun W' hb hcc => ?_) (by simpa [World.setCell] using hsz9)
  have h9 := (hcc N10 0 ⟨_, HE.out⟩).trans HE.out
  exact ⟨.bool true, by simp [results, Try.f6, go_sem, h9], rfl, HKE.out.trans (hb.mono hw9)⟩

end Go.Proofs.Ytbhgcbgaadnfpaa
