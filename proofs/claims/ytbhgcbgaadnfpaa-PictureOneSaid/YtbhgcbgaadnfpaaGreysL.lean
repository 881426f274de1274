/- The law PictureGreys, walked. -/
import Derived.Test.YtbhgcbgaadnfpaaROf
import Derived.Test.YtbhgcbgaadnfpaaHold
namespace Go.Proofs.Ytbhgcbgaadnfpaa
open Go.RowKit

def outA (E : Int) (P : PicD) : Int := if E = 0 then P.a else 0
def outD (E : Int) (P : PicD) : Int := if E = 0 then P.d else 0
def outG (E : Int) (P : PicD) : List UInt8 := if E = 0 then P.g else []
/-- Both cases under one name. -/
theorem PutPost.out {w w' : World} {E : Int} {P : PicD} {e : Ending} (h : PutPost w E P e w') :
    ∃ (A : Option Addr) (c : Nat), e = .returned (.tuple #[.agg #[.int .i64 (outA E P), .int .i64 (outD E P), .slice A (outG E P).length c], .int .i64 E]) ∧ Own w' w.heap.size 1 (.slice A (outG E P).length c) (outG E P).length (bytesV (outG E P)) ∧ Kept w w' := by
  unfold PutPost at h
  by_cases hE : E = 0
  · subst hE
    rw [if_pos rfl] at h
    obtain ⟨v, rfl, ho, hk⟩ := h
    obtain ⟨A, c, rfl, -, -, -, -, -⟩ := ho.form
    exact ⟨A, c, rfl, ho, hk⟩
  · rw [if_neg hE] at h
    obtain ⟨rfl, hk⟩ := h
    exact ⟨none, 0, by simp [outA, outD, outG, hE], by simpa [outG, hE, bytesV] using Own.nil _ _ _, hk⟩

theorem info_wit : (Try.prog.info? 43).map (fun i => (i.zero, i.size, i.bytes)) = some (some (.agg #[.int .u8 0, .int .i64 0, .int .i64 0]), 3, 24) := by kernel_rfl

def m7 : Wit := ⟨0, -7, 0⟩
/-- The five cells of a tile. -/
structure TBox (W : World) (b : Nat) (T : TilD) (v : Value) : Prop where
  c0 : W.cell? ⟨b, 0, none⟩ = some (.int .i64 T.x)
  c1 : W.cell? ⟨b, 1, none⟩ = some (.int .i64 T.y)
  c2 : W.cell? ⟨b, 2, none⟩ = some (.int .i64 T.a)
  c3 : W.cell? ⟨b, 3, none⟩ = some (.int .i64 T.d)
  c4 : W.cell? ⟨b, 4, none⟩ = some v
theorem TBox.kept {W W' : World} {b : Nat} {T : TilD} {v : Value} (h : TBox W b T v) (hk : Kept W W') : TBox W' b T v :=
  ⟨(hk.cells _ _ (lt_of_cell h.c0)).trans h.c0, (hk.cells _ _ (lt_of_cell h.c0)).trans h.c1, (hk.cells _ _ (lt_of_cell h.c0)).trans h.c2, (hk.cells _ _ (lt_of_cell h.c0)).trans h.c3, (hk.cells _ _ (lt_of_cell h.c0)).trans h.c4⟩
theorem TBox.new (W : World) (T : TilD) (v : Value) (t : TypeId) (b : Nat) (hb : b = W.heap.size) : TBox (W.alloc (.cells #[.int .i64 T.x, .int .i64 T.y, .int .i64 T.a, .int .i64 T.d, v] t)) b T v := by
  subst hb; exact ⟨by simp, by simp, by simp, by simp, by simp⟩
theorem TBox.lt {W : World} {b : Nat} {T : TilD} {v : Value} (h : TBox W b T v) : b < W.heap.size := lt_of_cell h.c0

theorem held_base {wy X wc w10 w12 : World} (h1 : Kept wy X) (h2 : Kept X wc) (h3 : Kept wc w10) (h4 : Kept w10 w12) : wy.heap.size ≤ w12.heap.size :=
  Nat.le_trans h1.size (Nat.le_trans h2.size (Nat.le_trans h3.size h4.size))
theorem TBox.far {W W' : World} {b : Nat} {T : TilD} {v : Value} {row : Option Nat} (h : TBox W b T v) (hf : ∀ b o, b < W.heap.size → some b ≠ row → W'.cell? ⟨b, o, none⟩ = W.cell? ⟨b, o, none⟩) (hne : some b ≠ row) : TBox W' b T v :=
  ⟨(hf _ _ h.lt hne).trans h.c0, (hf _ _ h.lt hne).trans h.c1, (hf _ _ h.lt hne).trans h.c2, (hf _ _ h.lt hne).trans h.c3, (hf _ _ h.lt hne).trans h.c4⟩
theorem Box.far {W W' : World} {b : Nat} {x y z : Value} {row : Option Nat} (h : Box W b x y z) (hf : ∀ b o, b < W.heap.size → some b ≠ row → W'.cell? ⟨b, o, none⟩ = W.cell? ⟨b, o, none⟩) (hne : some b ≠ row) : Box W' b x y z :=
  ⟨(hf _ _ (lt_of_cell h.1) hne).trans h.1, (hf _ _ (lt_of_cell h.1) hne).trans h.2.1, (hf _ _ (lt_of_cell h.1) hne).trans h.2.2⟩

set_option maxRecDepth 100000 in
set_option maxHeartbeats 3200000 in
theorem greys_any (x : Wit) (gr : Int) (T : TilD) (A : Option Addr) (n c : Nat) (w : World) (hx : x.ok) (hg0 : 0 ≤ gr) (hg1 : gr ≤ 255) (h : TilAt w T A n c) (hn : n * 24 + 24 ≤ 140737488355328) :
    Calls Try.prog 9 #[.agg #[.int .u8 x.t, .int .i64 x.s, .int .i64 x.r], .int .u8 gr, .agg #[.int .i64 T.x, .int .i64 T.y, .int .i64 T.a, .int .i64 T.d, .slice A n c]] w fun e w' => e = .returned (.bool true) ∧ Kept w w' := by
  obtain ⟨i0, hi, hi0, hi1, hi2⟩ := info_parts info_wit
  have CT : Hid (∀ W, Calls Try.prog 22 #[.int .u8 gr] W fun e w' => e = .returned (.tuple #[.int .u8 (toldI gr), .bool (toldB gr)]) ∧ W = w') := fun W => told_any gr W hg0 hg1
  have CU : Hid (∀ W, Calls Try.prog 35 #[.int .u8 gr] W fun e w' => e = .returned (.tuple #[.int .u8 (toldI gr), .bool (toldB gr)]) ∧ W = w') := fun W => rtold_any gr W hg0 hg1
  obtain ⟨tI, htI⟩ : ∃ t, t = toldI gr := ⟨_, rfl⟩
  obtain ⟨tB, htB⟩ : ∃ t, t = toldB gr := ⟨_, rfl⟩
  rw [← htI, ← htB] at CT CU
  have CS : Hid (∀ W, Calls Try.prog 23 #[.agg #[.int .u8 x.t, .int .i64 x.s, .int .i64 x.r]] W fun e w' => e = .returned (.int .u8 (shadeI x.t x.s)) ∧ Kept W w') := fun W => shade_any x.t x.s x.r W hx.1 hx.2.1 hx.2.2.1 hx.2.2.2.1
  have CR : Hid (∀ W, Calls Try.prog 36 #[.agg #[.int .u8 x.t, .int .i64 x.s, .int .i64 x.r]] W fun e w' => e = .returned (.int .u8 (shadeI x.t x.s)) ∧ Kept W w') := fun W => rshade_any x.t x.s x.r W hx.1 hx.2.1 hx.2.2.1 hx.2.2.2.1
  obtain ⟨sh, hsh⟩ : ∃ t, t = shadeI x.t x.s := ⟨_, rfl⟩
  rw [← hsh] at CS CR
  have HT := hide h
  have hb23 : (0 + n) * 24 ≤ 140737488355328 := by omega
  have hb24 : (0 + n + 1) * 24 ≤ 140737488355328 := by rw [Nat.zero_add, Nat.add_mul]; exact hn
  clear htI htB hsh hx h hg0 hg1
  go_enter Try.func9, Try.ntmps9
  go_upto_region 3 with (first
    | (go_at_call 22; refine (CT.out _).mono ?_; rintro e w' ⟨rfl, rfl⟩)
    | (go_at_call 35; refine (CU.out _).mono ?_; rintro e w' ⟨rfl, rfl⟩))
  obtain ⟨W, hW⟩ : ∃ W, W = (w.alloc (.cells #[.int .u8 x.t, .int .i64 x.s, .int .i64 x.r] 43)).alloc (.cells #[.int .i64 T.x, .int .i64 T.y, .int .i64 T.a, .int .i64 T.d, .slice A n c] 69) := ⟨_, rfl⟩
  have KW : Hid (Kept w W) := by rw [hW]; exact ((Below.refl _ _).alloc (Nat.le_refl _) _).alloc (by simp) _
  have BX : Hid (Box W w.heap.size (.int .u8 x.t) (.int .i64 x.s) (.int .i64 x.r)) := by rw [hW]; exact (Box.new _ _ _ _ _ _ rfl).alloc _
  have TX : Hid (TBox W (w.heap.size + 1) T (.slice A n c)) := by rw [hW]; exact TBox.new _ _ _ _ _ (by simp)
  rw [← hW]
  clear hW
  go_cut [41] (fun v wx => v = .bool false ∧ Kept W wx)
  case first =>
    obtain ⟨b0, b1, b2⟩ := BX.out
    have hzW := lt_of_cell b0
    have SK : Hid (∀ X, Kept W X → X.cell? ⟨w.heap.size, 0, none⟩ = some (.int .u8 x.t) ∧ X.cell? ⟨w.heap.size, 1, none⟩ = some (.int .i64 x.s) ∧ X.cell? ⟨w.heap.size, 2, none⟩ = some (.int .i64 x.r)) := fun X hX => BX.out.kept hX
    clear b0 b1 b2
    refine wp_region_L (fun X => X.cell? ⟨w.heap.size, 0, none⟩ = some (.int .u8 x.t) ∧ X.cell? ⟨w.heap.size, 1, none⟩ = some (.int .i64 x.s) ∧ X.cell? ⟨w.heap.size, 2, none⟩ = some (.int .i64 x.r)) 999 (by kernel_rfl) ?_ (fun hHeld => ?_)
    · first | exact SK.out _ ((Below.refl _ _).drew) | assumption
    refine wpAnyL_take (i := 0) (v := ?_) (some 27) rfl rfl (by kernel_rfl) (by kernel_rfl) (by kernel_rfl) (by kernel_rfl) (fun _ _ _ h => h) (Or.inl ⟨by rfl, ?_⟩) (by assumption) ?_
    rotate_left
    · intro w hSw; (try dsimp only at hSw); go_simp; (try with_reducible rfl)
    try simp only [Act.put, List.setIfInBounds_toArray, List.set_cons_zero, List.set_cons_succ]
    refine wpAnyL_take (i := 2) (v := ?_) (some 29) rfl rfl (by kernel_rfl) (by kernel_rfl) (by kernel_rfl) (by kernel_rfl) (fun _ _ _ h => h) (Or.inl ⟨by rfl, ?_⟩) (by assumption) ?_
    rotate_left
    · intro w hSw; (try dsimp only at hSw); go_simp; (try with_reducible rfl)
    try simp only [Act.put, List.setIfInBounds_toArray, List.set_cons_zero, List.set_cons_succ]
    refine wpAnyL_one (i := 1) (by kernel_rfl) rfl (fun K hK => ?_)
    go_simp
    (refine (CS.out _).mono ?_; rintro e w3 ⟨rfl, hk3⟩; have hk3' : Kept W w3 := ((Below.refl _ W).drew).trans hk3; have hS3 := SK.out _ hk3')
    refine hK.out _ _ ?_ (fun hHeld => ?_)
    · first | exact SK.out _ ((Below.refl _ _).drew) | assumption
    clear hK K
    try simp only [Act.put, List.setIfInBounds_toArray, List.set_cons_zero, List.set_cons_succ]
    refine wpAnyL_one (i := 3) (by kernel_rfl) rfl (fun K hK => ?_)
    go_simp
    (refine (CR.out _).mono ?_; rintro e w4 ⟨rfl, hk4⟩; have hk4' : Kept W w4 := hk3'.trans' hk4; have hS4 := SK.out _ hk4')
    refine hK.out _ _ ?_ (fun hHeld => ?_)
    · first | exact SK.out _ ((Below.refl _ _).drew) | assumption
    clear hK K
    try simp only [Act.put, List.setIfInBounds_toArray, List.set_cons_zero, List.set_cons_succ]
    refine wpAnyL_take (i := 4) (v := Value.bool false) (some 31) rfl rfl (by kernel_rfl) (by kernel_rfl) (by kernel_rfl) (by kernel_rfl) (fun _ _ _ h => h) (Or.inl ⟨by rfl, ?_⟩) (by assumption) ?_
    · intro w hSw; (try dsimp only at hSw); go_simp
    try simp only [Act.put, List.setIfInBounds_toArray, List.set_cons_zero, List.set_cons_succ]
    refine wpAnyL_take (i := 5) (v := Value.bool false) (some 32) rfl rfl (by kernel_rfl) (by kernel_rfl) (by kernel_rfl) (by kernel_rfl) (fun _ _ _ h => h) (Or.inl ⟨by rfl, ?_⟩) (by assumption) ?_
    · intro w hSw; (try dsimp only at hSw); go_simp
    try simp only [Act.put, List.setIfInBounds_toArray, List.set_cons_zero, List.set_cons_succ]
    refine wpAnyL_take (i := 6) (v := ?_) (some 33) rfl rfl (by kernel_rfl) (by kernel_rfl) (by kernel_rfl) (by kernel_rfl) (fun _ _ _ h => h) (Or.inl ⟨by rfl, ?_⟩) (by assumption) ?_
    rotate_left
    · intro w hSw; (try dsimp only at hSw); go_simp; (try with_reducible rfl)
    try simp only [Act.put, List.setIfInBounds_toArray, List.set_cons_zero, List.set_cons_succ]
    refine wpAnyL_take (i := 7) (v := ?_) (some 34) rfl rfl (by kernel_rfl) (by kernel_rfl) (by kernel_rfl) (by kernel_rfl) (fun _ _ _ h => h) (Or.inl ⟨by rfl, ?_⟩) (by assumption) ?_
    rotate_left
    · intro w hSw; (try dsimp only at hSw); go_simp; (try with_reducible rfl)
    try simp only [Act.put, List.setIfInBounds_toArray, List.set_cons_zero, List.set_cons_succ]
    refine wpAnyL_take (i := 8) (v := Value.bool false) (some 35) rfl rfl (by kernel_rfl) (by kernel_rfl) (by kernel_rfl) (by kernel_rfl) (fun _ _ _ h => h) (Or.inl ⟨by rfl, ?_⟩) (by assumption) ?_
    · intro w hSw; (try dsimp only at hSw); go_simp
    try simp only [Act.put, List.setIfInBounds_toArray, List.set_cons_zero, List.set_cons_succ]
    refine wpAnyL_take (i := 9) (v := Value.bool false) (some 36) rfl rfl (by kernel_rfl) (by kernel_rfl) (by kernel_rfl) (by kernel_rfl) (fun _ _ _ h => h) (Or.inl ⟨by rfl, ?_⟩) (by assumption) ?_
    · intro w hSw; (try dsimp only at hSw); go_simp
    try simp only [Act.put, List.setIfInBounds_toArray, List.set_cons_zero, List.set_cons_succ]
    refine wpAnyL_take (i := 10) (v := Value.bool false) (some 37) rfl rfl (by kernel_rfl) (by kernel_rfl) (by kernel_rfl) (by kernel_rfl) (fun _ _ _ h => h) (Or.inl ⟨by rfl, ?_⟩) (by assumption) ?_
    · intro w hSw; (try dsimp only at hSw); go_simp
    try simp only [Act.put, List.setIfInBounds_toArray, List.set_cons_zero, List.set_cons_succ]
    refine wpAnyL_take (i := 11) (v := ?_) (some 38) rfl rfl (by kernel_rfl) (by kernel_rfl) (by kernel_rfl) (by kernel_rfl) (fun _ _ _ h => h) (Or.inl ⟨by rfl, ?_⟩) (by assumption) ?_
    rotate_left
    · intro w hSw; (try dsimp only at hSw); go_simp; (try with_reducible rfl)
    try simp only [Act.put, List.setIfInBounds_toArray, List.set_cons_zero, List.set_cons_succ]
    refine wpAnyL_take (i := 12) (v := ?_) (some 39) rfl rfl (by kernel_rfl) (by kernel_rfl) (by kernel_rfl) (by kernel_rfl) (fun _ _ _ h => h) (Or.inl ⟨by rfl, ?_⟩) (by assumption) ?_
    rotate_left
    · intro w hSw; (try dsimp only at hSw); go_simp; (try with_reducible rfl)
    try simp only [Act.put, List.setIfInBounds_toArray, List.set_cons_zero, List.set_cons_succ]
    refine wpAnyL_take (i := 13) (v := Value.bool false) (some 40) rfl rfl (by kernel_rfl) (by kernel_rfl) (by kernel_rfl) (by kernel_rfl) (fun _ _ _ h => h) (Or.inl ⟨by rfl, ?_⟩) (by assumption) ?_
    · intro w hSw; (try dsimp only at hSw); go_simp
    try simp only [Act.put, List.setIfInBounds_toArray, List.set_cons_zero, List.set_cons_succ]
    refine wpAnyL_take (i := 14) (v := Value.bool false) (some 41) rfl rfl (by kernel_rfl) (by kernel_rfl) (by kernel_rfl) (by kernel_rfl) (fun _ _ _ h => h) (Or.inl ⟨by rfl, ?_⟩) (by assumption) ?_
    · intro w hSw; (try dsimp only at hSw); go_simp
    try simp only [Act.put, List.setIfInBounds_toArray, List.set_cons_zero, List.set_cons_succ]
    refine wpAnyL_done (by kernel_rfl) ?_ _
    go_wp2_with fail
    go_meet
    exact ⟨rfl, hk4'⟩
  case rest =>
  obtain ⟨rfl, hkc⟩ := hcut
  have KC := hide (KW.out.trans (hkc.mono KW.out.size))
  have T1 := hide (TX.out.kept hkc)
  obtain ⟨c0, c1, c2, c3, c4⟩ := T1.out
  have hz1 := T1.out.lt
  clear hkc BX
  go_upto_region 6 with fail
  obtain ⟨V, hV⟩ : ∃ V, V = wc.alloc (.cells #[.int .i64 T.x, .int .i64 T.y, .int .i64 T.a, .int .i64 T.d, .slice A n c] 69) := ⟨_, rfl⟩
  have hKV : Kept wc V := by rw [hV]; exact (Below.refl _ _).alloc (Nat.le_refl _) _
  have O2 : Hid (TBox V wc.heap.size T (.slice A n c)) := by rw [hV]; exact TBox.new _ _ _ _ _ rfl
  have of2 : V.frozen? ⟨wc.heap.size, 4, none⟩ = false := by rw [hV]; exact frozen_fresh _ _ _ _
  have T2 := hide (T1.out.kept hKV)
  have hzV := O2.out.lt
  have hzT := T2.out.lt
  have KV := hide hKV
  have p4 := T2.out.c4
  have q4 := O2.out.c4
  have HR : Hid (Row V A (witV T.c)) := HT.out.row.kept (KC.out.trans (KV.out.mono KC.out.size))
  have HL : Hid ((witV T.c).length = n * 3) := by show _ = _; rw [witV_length, HT.out.len]
  rw [← hV]
  clear hV hKV c0 c1 c2 c3 c4 T1
  go_cut [] (fun wy => ∃ (A5 : Option Addr) (c5 : Nat) (w5 : World), wy = World.setCell w5 ⟨wc.heap.size, 4, none⟩ (.slice A5 n c5) ∧ Own w5 V.heap.size 3 (.slice A5 (n + 1) c5) (n + 1) (witV (T.c ++ [m7])) ∧ Below V.heap.size V w5)
  case first =>
    have HNEW : Hid (Row (V.alloc (.cells #[.int .u8 0, .int .i64 (-7), .int .i64 0] 43)).drew (some ⟨V.heap.size, 0, none⟩) (witV [m7])) := (Row.new_at _ _ _ _ _ _ rfl rfl).drew
    refine wp_region_L (fun w' => w'.cell? ⟨w.heap.size + 1, 4, none⟩ = some (.slice A n c)) 11 (by kernel_rfl) ?_ (fun hHeld => ?_)
    · first | assumption | go_keep
    refine wpAnyL_take (i := 0) (v := ?_) (some 43) rfl rfl (by kernel_rfl) (by kernel_rfl) (by kernel_rfl) (by kernel_rfl) (fun _ _ _ h => h) (Or.inl ⟨by rfl, ?_⟩) (by assumption) ?_
    rotate_left
    · intro w hSw; (try dsimp only at hSw); go_simp; (try with_reducible rfl)
    try simp only [Act.put, List.setIfInBounds_toArray, List.set_cons_zero, List.set_cons_succ]
    refine wpAnyL_take (i := 1) (v := ?_) (some 44) rfl rfl (by kernel_rfl) (by kernel_rfl) (by kernel_rfl) (by kernel_rfl) (fun _ _ _ h => h) (Or.inl ⟨by rfl, ?_⟩) (by assumption) ?_
    rotate_left
    · intro w hSw; (try dsimp only at hSw); go_simp; (try with_reducible rfl)
    try simp only [Act.put, List.setIfInBounds_toArray, List.set_cons_zero, List.set_cons_succ]
    refine wpAnyL_take (i := 3) (v := ?_) (some 46) rfl rfl (by kernel_rfl) (by kernel_rfl) (by kernel_rfl) (by kernel_rfl) (fun _ _ _ h => h) (Or.inl ⟨by rfl, ?_⟩) (by assumption) ?_
    rotate_left
    · intro w hSw; (try dsimp only at hSw); go_simp; (try with_reducible rfl)
    try simp only [Act.put, List.setIfInBounds_toArray, List.set_cons_zero, List.set_cons_succ]
    refine wpAnyL_take (i := 6) (v := ?_) (some 49) rfl rfl (by kernel_rfl) (by kernel_rfl) (by kernel_rfl) (by kernel_rfl) (fun _ _ _ h => h) (Or.inl ⟨by rfl, ?_⟩) (by assumption) ?_
    rotate_left
    · intro w hSw; (try dsimp only at hSw); go_simp; (try with_reducible rfl)
    try simp only [Act.put, List.setIfInBounds_toArray, List.set_cons_zero, List.set_cons_succ]
    refine wpAnyL_take (i := 7) (v := ?_) (some 50) rfl rfl (by kernel_rfl) (by kernel_rfl) (by kernel_rfl) (by kernel_rfl) (fun _ _ _ h => h) (Or.inl ⟨by rfl, ?_⟩) (by assumption) ?_
    rotate_left
    · intro w hSw; (try dsimp only at hSw); go_simp; (try with_reducible rfl)
    try simp only [Act.put, List.setIfInBounds_toArray, List.set_cons_zero, List.set_cons_succ]
    refine wpAnyL_take (i := 8) (v := ?_) (some 51) rfl rfl (by kernel_rfl) (by kernel_rfl) (by kernel_rfl) (by kernel_rfl) (fun _ _ _ h => h) (Or.inl ⟨by rfl, ?_⟩) (by assumption) ?_
    rotate_left
    · intro w hSw; (try dsimp only at hSw); go_simp; (try with_reducible rfl)
    try simp only [Act.put, List.setIfInBounds_toArray, List.set_cons_zero, List.set_cons_succ]
    refine wpAnyL_two (i := 2) (j := 4) (by kernel_rfl) rfl rfl (fun K hK => ?_) (fun K hK => ?_)
    · skip
      (refine step_append_row _ rfl _ _ 67 rfl V.heap.size 43 i0 (.agg #[.int .u8 0, .int .i64 0, .int .i64 0]) 3 24 Try.underlying67 hi hi0 hi1 hi2 rfl (by decide) (.slice none 0 0) 0 [] rfl (Own.nil _ _ _) A n c (witV T.c) rfl HL.out HR.out (witV_one _) (by unfold maxLen; omega) hb23 (by first | omega | (simp; done) | (simp; omega)) ?_; intro v3 w3 hown3 hg3 hat3; have hb3 : Below V.heap.size V w3 := below_append ((Below.refl _ V).drew) (Own.nil _ _ 3) (Nat.le_refl _) (by first | omega | (simp; done) | (simp; omega)) hg3; have e3 := (hb3.cell (p := ⟨w.heap.size + 1, 4, none⟩) hzT).trans p4; have e33 := (hb3.cell (p := ⟨wc.heap.size, 4, none⟩) hzV).trans q4)
      refine hK.out _ _ ?_ (fun hHeld => ?_)
      · first | assumption | go_keep
      clear hK K
      try simp only [Act.put, List.setIfInBounds_toArray]
      refine wpAnyL_one (i := 4) (by kernel_rfl) rfl (fun K hK => ?_)
      go_simp
      refine hK.out _ _ ?_ (fun hHeld => ?_)
      · first | assumption | go_keep
      clear hK K
      try simp only [Act.put, List.setIfInBounds_toArray, List.set_cons_zero, List.set_cons_succ]
      refine wpAnyL_one (i := 5) (by kernel_rfl) rfl (fun K hK => ?_)
      (refine step_append_row _ rfl _ _ 67 rfl V.heap.size 43 i0 (.agg #[.int .u8 0, .int .i64 0, .int .i64 0]) 3 24 Try.underlying67 hi hi0 hi1 hi2 rfl (by decide) v3 (0 + n) _ rfl (hown3.alloc _) (some ⟨w3.heap.size, 0, none⟩) 1 1 (witV [m7]) rfl rfl (Row.new_at _ _ _ _ _ _ rfl rfl) (witV_one _) (by unfold maxLen; omega) hb24 (by have := hb3.size; first | omega | (simp; done) | (simp; omega)) ?_; intro v5 w5 hown5 hg5 hat5; have hb5 : Below V.heap.size V w5 := below_append (hb3.alloc hb3.size _) (hown3.alloc _) (Nat.le_refl _) (by have := hb3.size; first | omega | (simp; done) | (simp; omega)) hg5; have e5 := (hb5.cell (p := ⟨w.heap.size + 1, 4, none⟩) hzT).trans p4; have e55 := (hb5.cell (p := ⟨wc.heap.size, 4, none⟩) hzV).trans q4; have ef := (hb5.frozen (p := ⟨wc.heap.size, 4, none⟩) hzV).trans of2; obtain ⟨A5, c5, rfl, hv1, hv2, -, -, -⟩ := hown5.form; have hv6 : n ≤ c5 := (by omega); have hv7 : (n : Int) ≤ (c5 : Int) := (by omega))
      refine hK.out _ _ ?_ (fun hHeld => ?_)
      · first | assumption | go_keep
      clear hK K
      try simp only [Act.put, List.setIfInBounds_toArray]
      refine wpAnyL_one (i := 9) (by kernel_rfl) rfl (fun K hK => ?_)
      go_simp
      refine hK.out _ _ ?_ (fun hHeld => ?_)
      · first | assumption | go_keep
      clear hK K
      try simp only [Act.put, List.setIfInBounds_toArray, List.set_cons_zero, List.set_cons_succ]
      refine wpAnyL_one (i := 10) (by kernel_rfl) rfl (fun K hK => ?_)
      go_simp
      refine hK.out _ _ ?_ (fun hHeld => ?_)
      · first | assumption | go_keep
      clear hK K
      try simp only [Act.put, List.setIfInBounds_toArray, List.set_cons_zero, List.set_cons_succ]
      refine wpAnyL_end (by kernel_rfl) rfl (fun K hK => ?_)
      go_simp
      refine hK.out _ _ ?_
      clear hK K
      try simp only [Act.put, List.setIfInBounds_toArray, List.set_cons_zero, List.set_cons_succ]
      refine wpAnyL_done (by kernel_rfl) ?_ _
      go_wp2_with fail
      go_meet
      exact ⟨_, _, w5, rfl, by rw [witV_append]; simpa [Nat.zero_add] using hown5, hb5⟩
    · skip
      go_simp
      refine hK.out _ _ ?_ (fun hHeld => ?_)
      · first | assumption | go_keep
      clear hK K
      try simp only [Act.put, List.setIfInBounds_toArray, List.set_cons_zero, List.set_cons_succ]
      refine wpAnyL_one (i := 2) (by kernel_rfl) rfl (fun K hK => ?_)
      (refine step_append_row _ rfl _ _ 67 rfl V.heap.size 43 i0 (.agg #[.int .u8 0, .int .i64 0, .int .i64 0]) 3 24 Try.underlying67 hi hi0 hi1 hi2 rfl (by decide) (.slice none 0 0) 0 [] rfl (Own.nil _ _ _) A n c (witV T.c) rfl HL.out (HR.out.alloc _) (witV_one _) (by unfold maxLen; omega) hb23 (by first | omega | (simp; done) | (simp; omega)) ?_; intro v3 w3 hown3 hg3 hat3; have hb3 : Below V.heap.size V w3 := below_append (((Below.refl _ V).drew.alloc (Nat.le_refl _) _)) (Own.nil _ _ 3) (Nat.le_refl _) (by first | omega | (simp; done) | (simp; omega)) hg3; have e3 := (hb3.cell (p := ⟨w.heap.size + 1, 4, none⟩) hzT).trans p4; have e33 := (hb3.cell (p := ⟨wc.heap.size, 4, none⟩) hzV).trans q4)
      refine hK.out _ _ ?_ (fun hHeld => ?_)
      · first | assumption | go_keep
      clear hK K
      try simp only [Act.put, List.setIfInBounds_toArray]
      refine wpAnyL_one (i := 5) (by kernel_rfl) rfl (fun K hK => ?_)
      (refine step_append_row _ rfl _ _ 67 rfl V.heap.size 43 i0 (.agg #[.int .u8 0, .int .i64 0, .int .i64 0]) 3 24 Try.underlying67 hi hi0 hi1 hi2 rfl (by decide) v3 (0 + n) _ rfl hown3 (some ⟨V.heap.size, 0, none⟩) 1 1 (witV [m7]) rfl rfl (HNEW.out.grown hg3 (fun b off _ => by simp [Value.ownBlock])) (witV_one _) (by unfold maxLen; omega) hb24 (by have := hb3.size; first | omega | (simp; done) | (simp; omega)) ?_; intro v5 w5 hown5 hg5 hat5; have hb5 : Below V.heap.size V w5 := below_append (hb3) hown3 (Nat.le_refl _) (by have := hb3.size; first | omega | (simp; done) | (simp; omega)) hg5; have e5 := (hb5.cell (p := ⟨w.heap.size + 1, 4, none⟩) hzT).trans p4; have e55 := (hb5.cell (p := ⟨wc.heap.size, 4, none⟩) hzV).trans q4; have ef := (hb5.frozen (p := ⟨wc.heap.size, 4, none⟩) hzV).trans of2; obtain ⟨A5, c5, rfl, hv1, hv2, -, -, -⟩ := hown5.form; have hv6 : n ≤ c5 := (by omega); have hv7 : (n : Int) ≤ (c5 : Int) := (by omega))
      refine hK.out _ _ ?_ (fun hHeld => ?_)
      · first | assumption | go_keep
      clear hK K
      try simp only [Act.put, List.setIfInBounds_toArray]
      refine wpAnyL_one (i := 9) (by kernel_rfl) rfl (fun K hK => ?_)
      go_simp
      refine hK.out _ _ ?_ (fun hHeld => ?_)
      · first | assumption | go_keep
      clear hK K
      try simp only [Act.put, List.setIfInBounds_toArray, List.set_cons_zero, List.set_cons_succ]
      refine wpAnyL_one (i := 10) (by kernel_rfl) rfl (fun K hK => ?_)
      go_simp
      refine hK.out _ _ ?_ (fun hHeld => ?_)
      · first | assumption | go_keep
      clear hK K
      try simp only [Act.put, List.setIfInBounds_toArray, List.set_cons_zero, List.set_cons_succ]
      refine wpAnyL_end (by kernel_rfl) rfl (fun K hK => ?_)
      go_simp
      refine hK.out _ _ ?_
      clear hK K
      try simp only [Act.put, List.setIfInBounds_toArray, List.set_cons_zero, List.set_cons_succ]
      refine wpAnyL_done (by kernel_rfl) ?_ _
      go_wp2_with fail
      go_meet
      exact ⟨_, _, w5, rfl, by rw [witV_append]; simpa [Nat.zero_add] using hown5, hb5⟩
  case rest =>
  obtain ⟨A5, c5, w5, rfl, hown, hb⟩ := hcut
  have hnc5 : n + 1 ≤ c5 := by obtain ⟨A', c', hv, h1, -, -, -, -⟩ := hown.form; injection hv with _ _ h3; omega
  obtain ⟨wy, hwy⟩ : ∃ wy, wy = World.setCell w5 ⟨wc.heap.size, 4, none⟩ (.slice A5 n c5) := ⟨_, rfl⟩
  have hsz5 : wy.heap.size = w5.heap.size := by rw [hwy]; simp [World.setCell]
  have hVy : V.heap.size ≤ wy.heap.size := by rw [hsz5]; exact hb.size
  have TY : Hid (TBox wy wc.heap.size T (.slice A5 n c5)) := by
    rw [hwy]
    have q := fun o => hb.cell (p := ⟨wc.heap.size, o, none⟩) hzV
    refine ⟨?_, ?_, ?_, ?_, ?_⟩
    · rw [World.cell?_setCell_other _ _ _ _ (by simp), q]; exact O2.out.c0
    · rw [World.cell?_setCell_other _ _ _ _ (by simp), q]; exact O2.out.c1
    · rw [World.cell?_setCell_other _ _ _ _ (by simp), q]; exact O2.out.c2
    · rw [World.cell?_setCell_other _ _ _ _ (by simp), q]; exact O2.out.c3
    · rw [World.cell?_setCell_same _ _ _ ((q 4).trans O2.out.c4)]
  have KY : Hid (Kept wc wy) := by
    rw [hwy]; exact (KV.out.trans (hb.mono KV.out.size)).setCell (by simp) _
  have TT : Hid (TBox wy (w.heap.size + 1) T (.slice A n c)) := by
    have h2 : TBox w5 (w.heap.size + 1) T (.slice A n c) := by
      have q := fun o => hb.cell (p := ⟨w.heap.size + 1, o, none⟩) hzT
      exact ⟨(q 0).trans T2.out.c0, (q 1).trans T2.out.c1, (q 2).trans T2.out.c2, (q 3).trans T2.out.c3, (q 4).trans T2.out.c4⟩
    rw [hwy]
    have hne : ∀ o, (⟨w.heap.size + 1, o, none⟩ : Addr) ≠ ⟨wc.heap.size, 4, none⟩ := fun o e => by injection e with e1; omega
    refine ⟨?_, ?_, ?_, ?_, ?_⟩
    · rw [World.cell?_setCell_other _ _ _ _ (hne 0).symm]; exact h2.c0
    · rw [World.cell?_setCell_other _ _ _ _ (hne 1).symm]; exact h2.c1
    · rw [World.cell?_setCell_other _ _ _ _ (hne 2).symm]; exact h2.c2
    · rw [World.cell?_setCell_other _ _ _ _ (hne 3).symm]; exact h2.c3
    · rw [World.cell?_setCell_other _ _ _ _ (hne 4).symm]; exact h2.c4
  have OW : Hid (Own wy V.heap.size 3 (.slice A5 (n + 1) c5) (n + 1) (witV (T.c ++ [m7]))) := by
    rw [hwy]; exact hown.far (fun k hk => by have := (hown.lt k hk).1; show k ≠ wc.heap.size; omega) _
  have RA5 : Hid (Row wy A5 (witV T.c)) := by
    have h9 := OW.out.row.take (n * 3)
    rw [witV_take] at h9
    rw [List.take_append_of_le_length (by have := HT.out.len; omega), List.take_of_length_le (by have := HT.out.len; omega)] at h9
    exact h9
  have TA : Hid (TilAt wy T A5 n c5) := { HT.out with row := RA5.out, cap := by omega }
  have K0y := hide (KC.out.trans (KY.out.mono KC.out.size))
  have TB : Hid (TilAt wy T A n c) := HT.out.kept K0y.out
  have HC7 : Hid (∃ bb oo, A5 = some ⟨bb, oo, none⟩ ∧ wy.cell? ⟨bb, oo + n * 3 + 1, none⟩ = some (.int .i64 (-7))) := by
    obtain ⟨b, off, h1, -, h3, -⟩ := wit_at OW.out.row (k := n) (x := m7) (by rw [← HT.out.len]; simp)
    exact ⟨b, off, h1, h3⟩
  obtain ⟨bb, oo, rfl, hc7⟩ := HC7.out
  have HC8 := hide hc7
  rw [← hwy]
  clear hwy hsz5 hown hb HC7 hc7 O2 T2 KV hzV hzT p4 q4 of2 HR HL hz1
  obtain ⟨E, hE⟩ : ∃ E, E = ofE T n := ⟨_, rfl⟩
  obtain ⟨pa, hpa⟩ : ∃ E, E = outA (ofE T n) T.pic := ⟨_, rfl⟩
  obtain ⟨pd, hpd⟩ : ∃ E, E = outD (ofE T n) T.pic := ⟨_, rfl⟩
  obtain ⟨pg, hpg⟩ : ∃ E, E = outG (ofE T n) T.pic := ⟨_, rfl⟩
  obtain ⟨m, hm⟩ : ∃ m, m = pg.length := ⟨_, rfl⟩
  have CO : Hid (∀ W, Kept wy W → Calls Try.prog 37 #[.agg #[.int .i64 T.x, .int .i64 T.y, .int .i64 T.a, .int .i64 T.d, .slice (some ⟨bb, oo, none⟩) n c5]] W fun e w' => ∃ (A : Option Addr) (c : Nat), e = .returned (.tuple #[.agg #[.int .i64 pa, .int .i64 pd, .slice A m c], .int .i64 E]) ∧ Own w' W.heap.size 1 (.slice A m c) m (bytesV pg) ∧ Kept W w') := fun W hW => by
    rw [hE, hpa, hpd, hm, hpg]
    exact (of_any T _ n c5 W (TA.out.kept hW)).mono fun _ _ h => h.out
  have HE := hide hE
  have HP := hide (And.intro hpa (And.intro hpd (And.intro hpg hm)))
  clear hE hpa hpd hpg hm
  obtain ⟨y0, y1, y2, y3, y4⟩ := TY.out
  obtain ⟨t0, t1, t2, t3, t4⟩ := TT.out
  have hzy := TY.out.lt
  have hzt := TT.out.lt
  go_wp2_with fail
  refine (CO.out _ (Below.refl _ _)).mono ?_
  rintro e w6 ⟨P1, d1, rfl, ho1, hk1⟩
  have K6 := hide hk1
  have TY6 := hide (TY.out.kept hk1)
  have O1 := hide ho1
  clear y0 y1 y2 y3 y4 t0 t1 t2 t3 t4 hk1 ho1
  obtain ⟨y0, y1, y2, y3, y4⟩ := TY6.out
  have hzy6 := TY6.out.lt
  go_wp2_with fail
  refine (CO.out _ (K6.out.alloc K6.out.size _)).mono ?_
  rintro e w7 ⟨P2, d2, rfl, ho2, hk2⟩
  obtain ⟨X, hX⟩ : ∃ X, X = w7.alloc (.cells #[.int .i64 pa, .int .i64 pd, .slice P2 m d2] 24) := ⟨_, rfl⟩
  have hkX : Kept w7 X := by rw [hX]; exact (Below.refl _ _).alloc (Nat.le_refl _) _
  have K6X := hide (hk2.trans' hkX)
  have KX : Hid (Kept wy X) := (K6.out.alloc K6.out.size (.cells #[.int .i64 pa, .int .i64 pd, .slice P1 m d1] 24)).trans (K6X.out.mono (by have := K6.out.size; simp; omega))
  have PX : Hid (Box X w6.heap.size (.int .i64 pa) (.int .i64 pd) (.slice P1 m d1)) := (Box.new w6 _ _ _ 24 _ rfl).kept K6X.out
  have QX : Hid (Box X w7.heap.size (.int .i64 pa) (.int .i64 pd) (.slice P2 m d2)) := by rw [hX]; exact Box.new _ _ _ _ _ _ rfl
  have O1X : Hid (Own X wy.heap.size 1 (.slice P1 m d1) m (bytesV pg)) := (O1.out.alloc _).kept K6X.out
  have O2X : Hid (Own X (w6.heap.size + 1) 1 (.slice P2 m d2) m (bytesV pg)) := by
    have h9 := ho2.kept hkX
    rw [World.size_alloc] at h9
    exact h9
  have LT1 : Hid (∀ k, (Value.slice P1 m d1).ownBlock = some k → k < w6.heap.size) := fun k hk => (O1.out.lt k hk).2
  have TYX := hide (TY.out.kept KX.out)
  have TTX := hide (TT.out.kept KX.out)
  have hzX := PX.out.1
  have hzx6 := lt_of_cell hzX
  have hzx7 := lt_of_cell QX.out.1
  go_upto_region 9 with fail
  rw [← hX]
  have h67 : w6.heap.size < w7.heap.size := by have := hk2.size; simp at this; omega
  clear hX hkX K6X hk2 ho2 O1 K6 TY6 y0 y1 y2 y3 y4 hzX hzy hzt hzy6
  go_wp2_with fail
  go_loopg [16] n (fun gh ix wr => ∃ k : Nat, k + gh = n ∧ ix = .int .i64 k ∧ Kept X wr)
  case atStart => exact ⟨0, by omega, rfl, Below.refl _ _⟩
  case round =>
    obtain ⟨k, hkg, rfl, hk⟩ := hrel
    have HKX := hide hk
    have TY9 := hide (TYX.out.kept hk)
    have TT9 := hide (TTX.out.kept hk)
    have t4 := TT9.out.c4
    have y4 := TY9.out.c4
    have hzt := TT9.out.lt
    have hzy := TY9.out.lt
    cases gk with
    | zero =>
      have hge : ¬ (k : Int) < n := by omega
      have k1 : IntKind.i64.wrap ((n : Int) + 1) = (n : Int) + 1 := IntWalk.i64_in _ (by omega)
      have k2 : ((n : Int) + 1).toNat = n + 1 := by omega
      have k3 : (n : Int) + 1 ≤ (c5 : Int) := by omega
      have k4 : (0 : Int) ≤ (n : Int) + 1 := by omega
      have k5 : (n : Int) < (n : Int) + 1 := by omega
      have c7 : wr.cell? ⟨bb, oo + n * 3 + 1, none⟩ = some (.int .i64 (-7)) := (hk.cells _ _ (lt_of_cell ((KX.out.cells _ _ (lt_of_cell HC8.out)).trans HC8.out))).trans ((KX.out.cells _ _ (lt_of_cell HC8.out)).trans HC8.out)
      clear hk hkg
      go_upto_region 14 with fail
      go_cut [95] (fun v wx => v = .bool false ∧ Kept wr wx)
      case first =>
        go_quiet (fail)
        go_wp2_with fail
        go_meet
        exact ⟨rfl, drewN_below (Below.refl _ _) _⟩
      case rest =>
      obtain ⟨rfl, hkc⟩ := hcut
      have K8 := hide (HKX.out.trans' hkc)
      have TT8 := hide (TT9.out.kept hkc)
      have P8 := hide (PX.out.kept K8.out)
      have Q8 := hide (QX.out.kept K8.out)
      have O18 := hide (O1X.out.kept K8.out)
      have O28 := hide (O2X.out.kept K8.out)
      have TB8 := hide ((TB.out.kept KX.out).kept K8.out)
      have KK8 := hide (K0y.out.trans ((KX.out.trans (K8.out.mono KX.out.size)).mono K0y.out.size))
      clear t4 y4 hzt hzy c7 k1 k2 k3 k4 k5 hkc
      obtain ⟨t0, t1, t2, t3, t4⟩ := TT8.out
      have hzt := TT8.out.lt
      cases hB : tileB T.x T.y T.a T.d n with
      | false =>
        obtain rfl : E = 290 := by rw [HE.out]; simp [ofE, hB]
        obtain rfl : pa = 0 := by rw [HP.out.1]; simp [outA, ofE, hB]
        obtain rfl : pd = 0 := by rw [HP.out.2.1]; simp [outD, ofE, hB]
        obtain rfl : pg = [] := by rw [HP.out.2.2.1]; simp [outG, ofE, hB]
        obtain rfl : m = 0 := HP.out.2.2.2
        have CR : Hid (∀ W, Kept wc W → Calls Try.prog 38 #[.agg #[.int .i64 T.x, .int .i64 T.y, .int .i64 T.a, .int .i64 T.d, .slice A n c]] W fun e w' => e = .returned (.bool false) ∧ Kept W w') := fun W hW => by
          have := rtile_any T A n c W (TB8.out.kept hW)
          rwa [hB] at this
        have CM : Hid (∀ W, Calls Try.prog 25 #[.agg #[.int .i64 0, .int .i64 0, .slice P1 0 d1], .agg #[.int .i64 0, .int .i64 0, .slice none 0 0]] W fun e w' => e = .returned (.bool true) ∧ Kept W w') := fun W => rsame_any 0 0 0 0 P1 none 0 d1 0 0 [] [] W rfl rfl Row.nil Row.nil
        clear hB
        go_wp2_with (first
          | (go_at_call 38; refine (CR.out _ (Below.refl _ _)).mono ?_; rintro e w10 ⟨rfl, hk10⟩; obtain ⟨p0, p1, p2⟩ := P8.out.kept hk10; have hzp := lt_of_cell p0; have K10 := hide (KK8.out.trans (hk10.mono KK8.out.size)); clear hk10)
          | (go_at_call 25; refine (CM.out _).mono ?_; rintro e w11 ⟨rfl, hk11⟩; have K11 := hide (K10.out.trans (hk11.mono K10.out.size)); clear hk11)
          | (go_at_call 19; refine (awake_any _).mono ?_; rintro e w12 ⟨rfl, hk12⟩))
        go_ret
        exact ⟨rfl, K11.out.trans (hk12.mono K11.out.size)⟩
      | true =>
        obtain rfl : E = 0 := by rw [HE.out]; simp [ofE, hB]
        obtain rfl : T.a = pa := by rw [HP.out.1]; simp [outA, ofE, hB, TilD.pic]
        obtain rfl : T.d = pd := by rw [HP.out.2.1]; simp [outD, ofE, hB, TilD.pic]
        obtain rfl : shades T = pg := by rw [HP.out.2.2.1]; simp [outG, ofE, hB, TilD.pic]
        obtain rfl : n = m := by rw [HP.out.2.2.2, shades, List.length_map, HT.out.len]
        have hn4 : n ≤ 4194304 := (mayB_bounds (tileB_may hB)).2.2.2.2.2.2
        have CR : Hid (∀ W, Kept wc W → Calls Try.prog 38 #[.agg #[.int .i64 T.x, .int .i64 T.y, .int .i64 T.a, .int .i64 T.d, .slice A n c]] W fun e w' => e = .returned (.bool true) ∧ Kept W w') := fun W hW => by
          have := rtile_any T A n c W (TB8.out.kept hW)
          rwa [hB] at this
        have CF : Hid (∀ W, Kept wc W → Calls Try.prog 39 #[.agg #[.int .i64 T.x, .int .i64 T.y, .int .i64 T.a, .int .i64 T.d, .slice A n c]] W fun e w' => ∃ (A' : Option Addr) (c' : Nat), e = .returned (.agg #[.int .i64 T.a, .int .i64 T.d, .slice A' n c']) ∧ Own w' W.heap.size 1 (.slice A' n c') n (bytesV (shades T)) ∧ Kept W w') := fun W hW => rof_any T A n c W (TB8.out.kept hW) hB
        have HLS := hide (show (shades T).length = n by rw [shades, List.length_map, HT.out.len])
        have hzt0 := TT.out.lt
        clear hB hge
        go_upto_region 18 with (go_at_call 38; refine (CR.out _ (Below.refl _ _)).mono ?_; rintro e w10 ⟨rfl, hk10⟩; have K10 := hide hk10; clear hk10)
        have SH : Hid (∀ Z, TBox Z (w.heap.size + 1) T (.slice A n c) → Box Z w6.heap.size (.int .i64 T.a) (.int .i64 T.d) (.slice P1 n d1) → Box Z w7.heap.size (.int .i64 T.a) (.int .i64 T.d) (.slice P2 n d2) → (fun X => X.cell? ⟨w.heap.size + 1, 0, none⟩ = some (.int .i64 T.x) ∧ X.cell? ⟨w.heap.size + 1, 1, none⟩ = some (.int .i64 T.y) ∧ X.cell? ⟨w.heap.size + 1, 2, none⟩ = some (.int .i64 T.a) ∧ X.cell? ⟨w.heap.size + 1, 3, none⟩ = some (.int .i64 T.d) ∧ X.cell? ⟨w.heap.size + 1, 4, none⟩ = some (.slice A n c) ∧ X.cell? ⟨w6.heap.size, 0, none⟩ = some (.int .i64 T.a) ∧ X.cell? ⟨w6.heap.size, 1, none⟩ = some (.int .i64 T.d) ∧ X.cell? ⟨w6.heap.size, 2, none⟩ = some (.slice P1 n d1) ∧ X.cell? ⟨w7.heap.size, 0, none⟩ = some (.int .i64 T.a) ∧ X.cell? ⟨w7.heap.size, 1, none⟩ = some (.int .i64 T.d) ∧ X.cell? ⟨w7.heap.size, 2, none⟩ = some (.slice P2 n d2)) Z) := fun Z h1 h2 h3 => ⟨h1.c0, h1.c1, h1.c2, h1.c3, h1.c4, h2.1, h2.2.1, h2.2.2, h3.1, h3.2.1, h3.2.2⟩
        have SK : Hid (∀ Z, Kept w10 Z → (fun X => X.cell? ⟨w.heap.size + 1, 0, none⟩ = some (.int .i64 T.x) ∧ X.cell? ⟨w.heap.size + 1, 1, none⟩ = some (.int .i64 T.y) ∧ X.cell? ⟨w.heap.size + 1, 2, none⟩ = some (.int .i64 T.a) ∧ X.cell? ⟨w.heap.size + 1, 3, none⟩ = some (.int .i64 T.d) ∧ X.cell? ⟨w.heap.size + 1, 4, none⟩ = some (.slice A n c) ∧ X.cell? ⟨w6.heap.size, 0, none⟩ = some (.int .i64 T.a) ∧ X.cell? ⟨w6.heap.size, 1, none⟩ = some (.int .i64 T.d) ∧ X.cell? ⟨w6.heap.size, 2, none⟩ = some (.slice P1 n d1) ∧ X.cell? ⟨w7.heap.size, 0, none⟩ = some (.int .i64 T.a) ∧ X.cell? ⟨w7.heap.size, 1, none⟩ = some (.int .i64 T.d) ∧ X.cell? ⟨w7.heap.size, 2, none⟩ = some (.slice P2 n d2)) Z) := fun Z hZ => SH.out Z ((TT8.out.kept K10.out).kept hZ) ((P8.out.kept K10.out).kept hZ) ((Q8.out.kept K10.out).kept hZ)
        clear t0 t1 t2 t3 t4 hzt
        dsimp only at SK
        refine wp_region_L (fun X => X.cell? ⟨w.heap.size + 1, 0, none⟩ = some (.int .i64 T.x) ∧ X.cell? ⟨w.heap.size + 1, 1, none⟩ = some (.int .i64 T.y) ∧ X.cell? ⟨w.heap.size + 1, 2, none⟩ = some (.int .i64 T.a) ∧ X.cell? ⟨w.heap.size + 1, 3, none⟩ = some (.int .i64 T.d) ∧ X.cell? ⟨w.heap.size + 1, 4, none⟩ = some (.slice A n c) ∧ X.cell? ⟨w6.heap.size, 0, none⟩ = some (.int .i64 T.a) ∧ X.cell? ⟨w6.heap.size, 1, none⟩ = some (.int .i64 T.d) ∧ X.cell? ⟨w6.heap.size, 2, none⟩ = some (.slice P1 n d1) ∧ X.cell? ⟨w7.heap.size, 0, none⟩ = some (.int .i64 T.a) ∧ X.cell? ⟨w7.heap.size, 1, none⟩ = some (.int .i64 T.d) ∧ X.cell? ⟨w7.heap.size, 2, none⟩ = some (.slice P2 n d2)) 999 (by kernel_rfl) ?_ (fun hHeld => ?_)
        · first | exact SK.out _ ((Below.refl _ _).drew) | assumption
        refine wpAnyL_take (i := 0) (v := ?_) (some 114) rfl rfl (by kernel_rfl) (by kernel_rfl) (by kernel_rfl) (by kernel_rfl) (fun _ _ _ h => h) (Or.inl ⟨by rfl, ?_⟩) (by assumption) ?_
        rotate_left
        · intro w hSw; (try dsimp only at hSw); go_simp; (try with_reducible rfl)
        try simp only [Act.put, List.setIfInBounds_toArray, List.set_cons_zero, List.set_cons_succ]
        refine wpAnyL_take (i := 1) (v := Value.bool true) (some 115) rfl rfl (by kernel_rfl) (by kernel_rfl) (by kernel_rfl) (by kernel_rfl) (fun _ _ _ h => h) (Or.inl ⟨by rfl, ?_⟩) (by assumption) ?_
        · intro w hSw; (try dsimp only at hSw); go_simp
        try simp only [Act.put, List.setIfInBounds_toArray, List.set_cons_zero, List.set_cons_succ]
        refine wpAnyL_take (i := 2) (v := Value.bool true) (some 116) rfl rfl (by kernel_rfl) (by kernel_rfl) (by kernel_rfl) (by kernel_rfl) (fun _ _ _ h => h) (Or.inl ⟨by rfl, ?_⟩) (by assumption) ?_
        · intro w hSw; (try dsimp only at hSw); go_simp
        try simp only [Act.put, List.setIfInBounds_toArray, List.set_cons_zero, List.set_cons_succ]
        refine wpAnyL_take (i := 3) (v := ?_) (some 117) rfl rfl (by kernel_rfl) (by kernel_rfl) (by kernel_rfl) (by kernel_rfl) (fun _ _ _ h => h) (Or.inl ⟨by rfl, ?_⟩) (by assumption) ?_
        rotate_left
        · intro w hSw; (try dsimp only at hSw); go_simp; (try with_reducible rfl)
        try simp only [Act.put, List.setIfInBounds_toArray, List.set_cons_zero, List.set_cons_succ]
        refine wpAnyL_take (i := 4) (v := Value.bool true) (some 118) rfl rfl (by kernel_rfl) (by kernel_rfl) (by kernel_rfl) (by kernel_rfl) (fun _ _ _ h => h) (Or.inl ⟨by rfl, ?_⟩) (by assumption) ?_
        · intro w hSw; (try dsimp only at hSw); go_simp
        try simp only [Act.put, List.setIfInBounds_toArray, List.set_cons_zero, List.set_cons_succ]
        refine wpAnyL_take (i := 5) (v := Value.bool true) (some 119) rfl rfl (by kernel_rfl) (by kernel_rfl) (by kernel_rfl) (by kernel_rfl) (fun _ _ _ h => h) (Or.inl ⟨by rfl, ?_⟩) (by assumption) ?_
        · intro w hSw; (try dsimp only at hSw); go_simp
        try simp only [Act.put, List.setIfInBounds_toArray, List.set_cons_zero, List.set_cons_succ]
        refine wpAnyL_take (i := 6) (v := Value.bool true) (some 120) rfl rfl (by kernel_rfl) (by kernel_rfl) (by kernel_rfl) (by kernel_rfl) (fun _ _ _ h => h) (Or.inl ⟨by rfl, ?_⟩) (by assumption) ?_
        · intro w hSw; (try dsimp only at hSw); go_simp
        try simp only [Act.put, List.setIfInBounds_toArray, List.set_cons_zero, List.set_cons_succ]
        refine wpAnyL_take (i := 7) (v := ?_) (some 121) rfl rfl (by kernel_rfl) (by kernel_rfl) (by kernel_rfl) (by kernel_rfl) (fun _ _ _ h => h) (Or.inl ⟨by rfl, ?_⟩) (by assumption) ?_
        rotate_left
        · intro w hSw; (try dsimp only at hSw); go_simp; (try with_reducible rfl)
        try simp only [Act.put, List.setIfInBounds_toArray, List.set_cons_zero, List.set_cons_succ]
        refine wpAnyL_take (i := 8) (v := ?_) (some 122) rfl rfl (by kernel_rfl) (by kernel_rfl) (by kernel_rfl) (by kernel_rfl) (fun _ _ _ h => h) (Or.inl ⟨by rfl, ?_⟩) (by assumption) ?_
        rotate_left
        · intro w hSw; (try dsimp only at hSw); go_simp; (try with_reducible rfl)
        try simp only [Act.put, List.setIfInBounds_toArray, List.set_cons_zero, List.set_cons_succ]
        refine wpAnyL_take (i := 9) (v := ?_) (some 123) rfl rfl (by kernel_rfl) (by kernel_rfl) (by kernel_rfl) (by kernel_rfl) (fun _ _ _ h => h) (Or.inl ⟨by rfl, ?_⟩) (by assumption) ?_
        rotate_left
        · intro w hSw; (try dsimp only at hSw); go_simp; (try with_reducible rfl)
        try simp only [Act.put, List.setIfInBounds_toArray, List.set_cons_zero, List.set_cons_succ]
        refine wpAnyL_one (i := 10) (by kernel_rfl) rfl (fun K hK => ?_)
        go_simp
        (refine (CF.out _ (K10.out.trans' ((Below.refl _ _).drew))).mono ?_; rintro e w12 ⟨A', c', rfl, ho12, hk12⟩; have hk12' : Kept w10 w12 := ((Below.refl _ w10).drew).trans hk12; have hS12 := SK.out _ hk12')
        refine hK.out _ _ ?_ (fun hHeld => ?_)
        · first | exact SK.out _ ((Below.refl _ _).drew) | assumption
        clear hK K
        try simp only [Act.put, List.setIfInBounds_toArray, List.set_cons_zero, List.set_cons_succ]
        refine wpAnyL_one (i := 11) (by kernel_rfl) rfl (fun K hK => ?_)
        go_simp
        (refine (held_more T.a T.d P1 P2 A' n d1 d2 c' wy.heap.size (shades T) w12 hn4 HLS.out (held_base KX.out K8.out K10.out hk12') ((O18.out.kept K10.out).kept hk12') ((O28.out.kept K10.out).kept hk12').row ho12.row (fun _ b off hB e => by have h1 := LT1.out b e.symm; have h2 := (O28.out.lt b (by rw [hB]; rfl)).1; omega) (fun _ b off hC e => by have h1 := LT1.out b e.symm; have h2 := (ho12.lt b (by rw [hC]; rfl)).1; have h3 := K8.out.size; have h4 := K10.out.size; have h5 : w10.drew.heap.size = w10.heap.size := rfl; omega)).mono ?_; rintro e w13 ⟨rfl, hb13, hfr0⟩; have hfr := (fun b o hb hne => (hfr0 b o hb hne).1); have hS13 := SH.out w13 (TBox.far ((TT8.out.kept K10.out).kept hk12') hfr (fun e => by have := (O18.out.lt _ e.symm).1; omega)) (Box.far ((P8.out.kept K10.out).kept hk12') hfr (fun e => by have := LT1.out _ e.symm; omega)) (Box.far ((Q8.out.kept K10.out).kept hk12') hfr (fun e => by have := LT1.out _ e.symm; omega)); dsimp only at hS13)
        refine hK.out _ _ ?_ (fun hHeld => ?_)
        · first | exact SK.out _ ((Below.refl _ _).drew) | assumption
        clear hK K
        try simp only [Act.put, List.setIfInBounds_toArray, List.set_cons_zero, List.set_cons_succ]
        refine wpAnyL_take (i := 12) (v := Value.bool true) (some 126) rfl rfl (by kernel_rfl) (by kernel_rfl) (by kernel_rfl) (by kernel_rfl) (fun _ _ _ h => h) (Or.inl ⟨by rfl, ?_⟩) (by assumption) ?_
        · intro w hSw; (try dsimp only at hSw); go_simp
        try simp only [Act.put, List.setIfInBounds_toArray, List.set_cons_zero, List.set_cons_succ]
        refine wpAnyL_take (i := 13) (v := Value.bool true) (some 127) rfl rfl (by kernel_rfl) (by kernel_rfl) (by kernel_rfl) (by kernel_rfl) (fun _ _ _ h => h) (Or.inl ⟨by rfl, ?_⟩) (by assumption) ?_
        · intro w hSw; (try dsimp only at hSw); go_simp
        try simp only [Act.put, List.setIfInBounds_toArray, List.set_cons_zero, List.set_cons_succ]
        refine wpAnyL_one (i := 14) (by kernel_rfl) rfl (fun K hK => ?_)
        go_simp
        (refine (awake_any _).mono ?_; rintro e w14 ⟨rfl, hk14⟩; have hS14 := SH.out w14 (((TBox.far ((TT8.out.kept K10.out).kept hk12') hfr (fun e => by have := (O18.out.lt _ e.symm).1; omega))).kept hk14) ((Box.far ((P8.out.kept K10.out).kept hk12') hfr (fun e => by have := LT1.out _ e.symm; omega)).kept hk14) ((Box.far ((Q8.out.kept K10.out).kept hk12') hfr (fun e => by have := LT1.out _ e.symm; omega)).kept hk14); dsimp only at hS14)
        refine hK.out _ _ ?_ (fun hHeld => ?_)
        · first | exact SK.out _ ((Below.refl _ _).drew) | assumption
        clear hK K
        try simp only [Act.put, List.setIfInBounds_toArray, List.set_cons_zero, List.set_cons_succ]
        refine wpAnyL_take (i := 15) (v := Value.bool true) (some 129) rfl rfl (by kernel_rfl) (by kernel_rfl) (by kernel_rfl) (by kernel_rfl) (fun _ _ _ h => h) (Or.inl ⟨by rfl, ?_⟩) (by assumption) ?_
        · intro w hSw; (try dsimp only at hSw); go_simp
        try simp only [Act.put, List.setIfInBounds_toArray, List.set_cons_zero, List.set_cons_succ]
        refine wpAnyL_take (i := 16) (v := Value.bool true) (some 6) rfl rfl (by kernel_rfl) (by kernel_rfl) (by kernel_rfl) (by kernel_rfl) (fun _ _ _ h => h) (Or.inl ⟨by rfl, ?_⟩) (by assumption) ?_
        · intro w hSw; (try dsimp only at hSw); go_simp
        try simp only [Act.put, List.setIfInBounds_toArray, List.set_cons_zero, List.set_cons_succ]
        refine wpAnyL_done (by kernel_rfl) ?_ _
        go_wp2_with fail
        go_ret
        exact ⟨rfl, ((K0y.out.trans (((KX.out.trans (K8.out.mono KX.out.size)).trans ((K10.out.trans' hk12').mono (Nat.le_trans KX.out.size K8.out.size))).mono K0y.out.size)).trans (hb13.mono K0y.out.size)).trans (hk14.mono (Nat.le_trans K0y.out.size (Nat.le_trans (held_base KX.out K8.out K10.out hk12') hb13.size)))⟩
    | succ gh =>
      have hlt : (k : Int) < n := by omega
      obtain ⟨x, hx⟩ : ∃ x, T.c[k]? = some x := ⟨_, List.getElem?_eq_getElem (by have := HT.out.len; omega)⟩
      obtain ⟨b1, o1, e1, x0, x1, x2⟩ := wit_at ((RA5.out.kept KX.out).kept hk) hx
      injection e1 with e1
      injection e1 with e1 e2
      subst e1 e2
      obtain ⟨b2, o2, rfl, z0, z1, z2⟩ := wit_at (((TB.out.row.kept KX.out)).kept hk) hx
      clear hx
      go_upto_region 12 with fail
      go_cut [81] (fun v wx => v = .bool false ∧ Kept wr wx)
      case first =>
        go_quiet (fail)
        go_wp2_with fail
        go_meet
        exact ⟨rfl, drewN_below (Below.refl _ _) _⟩
      case rest =>
        obtain ⟨rfl, hkc⟩ := hcut
        have HKC := hide (HKX.out.trans' hkc)
        clear hkc hk
        go_wp2_with fail
        go_roundg gh
        case measure => omega
        case rel => exact ⟨k + 1, by omega, by go_num, HKC.out⟩
end Go.Proofs.Ytbhgcbgaadnfpaa
