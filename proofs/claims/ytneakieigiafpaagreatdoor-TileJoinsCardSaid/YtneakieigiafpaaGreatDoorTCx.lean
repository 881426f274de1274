/- TCn, TCt, TCu, TCr: texts of one claim laid together. -/
import Derived.Test.YtneakieigiafpaaGreatDoorTilX
import Derived.Test.YtneakieigiafpaaGreatDoorRefG
import Derived.Deep.DeepCutAuto
import Derived.Test.YtneakieigiafpaaGreatDoorJonX
import Derived.Test.YtneakieigiafpaaGreatDoorMemX
import Derived.Outline
/- How many cells of a tile are what, by the program and by the document: walked. -/
namespace Go.Proofs.YtneakieigiafpaaGreatDoor
open Go.RowKit

/-- How many of the witnesses are of kind j. -/
def cntP (j : Int) (l : List Wit) : Nat := l.countP (fun x => decide (x.t = j))
theorem cnt_step {j : Int} {l : List Wit} {k : Nat} {x : Wit} (hx : l[k]? = some x) : cntP j (l.take (k + 1)) = cntP j (l.take k) + (if x.t = j then 1 else 0) := by
  unfold cntP
  rw [List.take_add_one, hx, List.countP_append]
  by_cases h : x.t = j <;> simp [h]
theorem cnt_le (j : Int) (l : List Wit) : cntP j l ≤ l.length := List.countP_le_length
theorem cnt_both (l : List Wit) : cntP 1 l + cntP 2 l ≤ l.length := by
  unfold cntP
  induction l with
  | nil => simp
  | cons x l ih =>
    simp only [List.countP_cons, List.length_cons, decide_eq_true_eq]
    by_cases h1 : x.t = 1
    · simp [h1]; omega
    · by_cases h2 : x.t = 2
      · simp [h2]; omega
      · simp [h1, h2]; omega
/-- What is told of a tile's cells. -/
def cntT (T : TilD) (n : Nat) : Value := if tileB T.x T.y T.a T.d n then .tuple #[.int .i64 (cntP 1 T.c : Nat), .int .i64 (cntP 2 T.c : Nat), .int .i64 ((n : Int) - (cntP 1 T.c : Nat) - (cntP 2 T.c : Nat)), .int .i64 0] else .tuple #[.int .i64 0, .int .i64 0, .int .i64 0, .int .i64 250]

set_option maxRecDepth 100000 in
set_option maxHeartbeats 1600000 in
theorem tcounts_any (T : TilD) (A : Option Addr) (n c : Nat) (w : World) (h : TilAt w T A n c) :
    Calls Tryz.prog 38 #[.agg #[.int .i64 T.x, .int .i64 T.y, .int .i64 T.a, .int .i64 T.d, .slice A n c]] w fun e w' => e = .returned (cntT T n) ∧ Kept w w' := by
  have CR := hide (fun (W : World) => tright_any T.x T.y T.a T.d A n c W h.a0 h.a1 h.d0 h.d1 h.x0 h.y0)
  have HM : Hid (tileB T.x T.y T.a T.d n = true → n ≤ 4194304) := fun hT => (mayB_bounds (tileB_may hT)).2.2.2.2.2.2
  have HT := hide h
  have B0 : Hid (∀ o v, (w.alloc (.cells #[.int .i64 T.x, .int .i64 T.y, .int .i64 T.a, .int .i64 T.d, .slice A n c] 56)).cell? ⟨w.heap.size, o, none⟩ = some v → ∀ W, Kept (w.alloc (.cells #[.int .i64 T.x, .int .i64 T.y, .int .i64 T.a, .int .i64 T.d, .slice A n c] 56)) W → W.cell? ⟨w.heap.size, o, none⟩ = some v) := fun o v hv W hW => (hW.cells _ _ (by simp)).trans hv
  clear h
  cases hB : tileB T.x T.y T.a T.d n with
  | false =>
    rw [hB] at CR
    have HC : Hid (cntT T n = .tuple #[.int .i64 0, .int .i64 0, .int .i64 0, .int .i64 250]) := by show cntT T n = _; unfold cntT; rw [hB]; rfl
    go_enter Tryz.func38, Tryz.ntmps38
    go_wp2_with (go_at_call 64; refine (CR.out _).mono ?_; rintro e w1 ⟨rfl, hk1⟩)
    exact bodyPost_ret (v := .tuple #[.int .i64 0, .int .i64 0, .int .i64 0, .int .i64 250]) (by simp [results, Tryz.results38, go_sem]) rfl ⟨by rw [HC.out], ((Below.refl _ _).alloc (Nat.le_refl _) _).trans (hk1.mono (by simp))⟩
  | true =>
    rw [hB] at CR
    have HC : Hid (cntT T n = .tuple #[.int .i64 (cntP 1 T.c : Nat), .int .i64 (cntP 2 T.c : Nat), .int .i64 ((n : Int) - (cntP 1 T.c : Nat) - (cntP 2 T.c : Nat)), .int .i64 0]) := by show cntT T n = _; unfold cntT; rw [hB]; rfl
    have hn := HM.out hB
    go_enter Tryz.func38, Tryz.ntmps38
    go_wp2_with (go_at_call 64; refine (CR.out _).mono ?_; rintro e w1 ⟨rfl, hk1⟩; have c4 := B0.out 4 (.slice A n c) (by simp) w1 hk1; have K1 := hide (((Below.refl _ _).alloc (Nat.le_refl _) (.cells #[.int .i64 T.x, .int .i64 T.y, .int .i64 T.a, .int .i64 T.d, .slice A n c] 56)).trans (hk1.mono (by simp))); clear hk1)
    go_loopg [2, 3, 4, 14] n (fun gh i o u ix wr => ∃ (k : Nat), k + gh = n ∧ ix = .int .i64 k ∧ i = .int .i64 (cntP 1 (T.c.take k) : Nat) ∧ o = .int .i64 (cntP 2 (T.c.take k) : Nat) ∧ u = .int .i64 ((k : Int) - (cntP 1 (T.c.take k) : Nat) - (cntP 2 (T.c.take k) : Nat)) ∧ Kept w wr)
    case atStart => exact ⟨0, by omega, rfl, rfl, rfl, by simp [cntP], K1.out⟩
    case round =>
      obtain ⟨k, hkg, rfl, rfl, rfl, rfl, hk⟩ := hrel
      cases gk with
      | zero =>
        have hge : ¬ (k : Int) < n := by omega
        have hkn : (k : Int) = n := by omega
        have ht : T.c.take k = T.c := by rw [List.take_of_length_le]; have := HT.out.len; omega
        rw [ht]
        go_wp2
        exact bodyPost_ret (v := .tuple #[.int .i64 (cntP 1 T.c : Nat), .int .i64 (cntP 2 T.c : Nat), .int .i64 ((n : Int) - (cntP 1 T.c : Nat) - (cntP 2 T.c : Nat)), .int .i64 0]) (by simp [results, Tryz.results38, go_sem]) rfl ⟨by rw [HC.out], hk⟩
      | succ gh =>
        have hlt : (k : Int) < n := by omega
        obtain ⟨x, hx⟩ : ∃ x, T.c[k]? = some x := ⟨_, List.getElem?_eq_getElem (by have := HT.out.len; omega)⟩
        have s1 := cnt_step (j := 1) hx
        have s2 := cnt_step (j := 2) hx
        have l1 := cnt_le 1 (T.c.take k)
        have l2 := cnt_le 2 (T.c.take k)
        have lb := cnt_both (T.c.take k)
        have lk : (T.c.take k).length ≤ k := by simp; omega
        have L1 := hide s1
        have L2 := hide s2
        obtain ⟨bb, off, rfl, x0, x1, x2⟩ := wit_at (HT.out.row.kept hk) hx
        have HK := hide hk
        have hbl := lt_of_cell x0
        obtain ⟨a, ha⟩ : ∃ a, a = cntP 1 (T.c.take k) := ⟨_, rfl⟩
        obtain ⟨b, hb⟩ : ∃ a, a = cntP 2 (T.c.take k) := ⟨_, rfl⟩
        rw [← ha] at l1 lb L1 ⊢
        rw [← hb] at l2 lb L2 ⊢
        clear hx hk s1 s2 ha hb
        have e1 : IntKind.i64.wrap ((a : Int) + 1) = ((a + 1 : Nat) : Int) := by rw [IntWalk.i64_in _ (by omega)]; simp
        have e2 : IntKind.i64.wrap ((b : Int) + 1) = ((b + 1 : Nat) : Int) := by rw [IntWalk.i64_in _ (by omega)]; simp
        have e3 : IntKind.i64.wrap ((k : Int) - (a : Nat) - (b : Nat) + 1) = (k : Int) - (a : Nat) - (b : Nat) + 1 := IntWalk.i64_in _ (by omega)
        rcases (show x.t = 1 ∨ (¬ x.t = 1 ∧ x.t = 2) ∨ (¬ x.t = 1 ∧ ¬ x.t = 2) by omega) with h1 | ⟨h1, h2⟩ | ⟨h1, h2⟩
        · have L1' := hide (L1.out.trans (by rw [if_pos h1]))
          have L2' := hide (L2.out.trans (by rw [if_neg (by omega)]))
          go_wp2
          go_roundg gh
          case measure => omega
          case rel => exact ⟨k + 1, by omega, by go_num, by rw [L1'.out]; simp, by rw [L2'.out]; rfl, by rw [L1'.out, L2'.out]; simp; omega, HK.out.alloc HK.out.size _⟩
        · have L1' := hide (L1.out.trans (by rw [if_neg h1]))
          have L2' := hide (L2.out.trans (by rw [if_pos h2]))
          go_wp2
          go_roundg gh
          case measure => omega
          case rel => exact ⟨k + 1, by omega, by go_num, by rw [L1'.out]; rfl, by rw [L2'.out]; simp, by rw [L1'.out, L2'.out]; simp; omega, HK.out.alloc HK.out.size _⟩
        · have L1' := hide (L1.out.trans (by rw [if_neg h1]))
          have L2' := hide (L2.out.trans (by rw [if_neg h2]))
          go_wp2
          go_roundg gh
          case measure => omega
          case rel => exact ⟨k + 1, by omega, by go_num, by rw [L1'.out]; rfl, by rw [L2'.out]; rfl, by rw [L1'.out, L2'.out]; simp; omega, HK.out.alloc HK.out.size _⟩

set_option maxRecDepth 100000 in
set_option maxHeartbeats 1600000 in
theorem refTMay_any (x y a d : Int) (A : Option Addr) (n c : Nat) (w : World) (ha : in64 a) (hd : in64 d) :
    Calls Tryz.prog 83 #[.agg #[.int .i64 x, .int .i64 y, .int .i64 a, .int .i64 d, .slice A n c]] w fun e w' => e = .returned (.bool (tileB x y a d n)) ∧ Kept w w' := by
  have CW := hide (fun (W : World) => refWithin_any a d 4194304 W ha hd (by omega) (by omega))
  have HB : Hid (tileB x y a d n = (decide (0 ≤ x) && (decide (0 ≤ y) && (decide (1 ≤ a ∧ 1 ≤ d ∧ a ≤ 4194304 ∧ a * d ≤ 4194304) && decide ((n : Int) = a * d))))) := by
    show tileB x y a d n = _
    unfold tileB
    congr 2
    rw [Bool.eq_iff_iff]
    simp only [rightB, Bool.and_eq_true, Bool.not_eq_true', Bool.or_eq_false_iff, decide_eq_false_iff_not, decide_eq_true_eq]
    constructor
    · rintro ⟨⟨h1, h2, h3, h4⟩, h5, h6⟩
      exact ⟨⟨by omega, by omega, by omega, h5⟩, h6⟩
    · rintro ⟨⟨h1, h2, h3, h4⟩, h5⟩
      refine ⟨⟨by omega, by omega, by omega, ?_⟩, h4, h5⟩
      have := Int.mul_le_mul_of_nonneg_right h1 (show 0 ≤ d by omega)
      omega
  obtain ⟨B, hB⟩ : ∃ B, B = decide (1 ≤ a ∧ 1 ≤ d ∧ a ≤ 4194304 ∧ a * d ≤ 4194304) := ⟨_, rfl⟩
  have HBI : Hid (B = true → IntKind.i64.wrap (a * d) = a * d) := fun h => by
    rw [hB] at h
    simp only [decide_eq_true_eq] at h
    have := Int.mul_nonneg (show 0 ≤ a by omega) (show 0 ≤ d by omega)
    exact IntWalk.i64_in _ (by omega)
  rw [← hB] at CW HB
  clear hB ha hd
  by_cases h0 : 0 ≤ x
  · by_cases h1 : 0 ≤ y
    · cases B with
      | true =>
        have m1 := HBI.out rfl
        go_enter Tryz.func83, Tryz.ntmps83
        go_wp2_with (go_at_call 55; refine (CW.out _).mono ?_; rintro e w1 ⟨rfl, rfl⟩)
        go_ret
        exact ⟨bool_ret (by rw [HB.out]; simp [h0, h1, Bool.beq_eq_decide_eq]), ((Below.refl _ _).alloc (Nat.le_refl _) _).alloc (by simp) _⟩
      | false =>
        go_enter Tryz.func83, Tryz.ntmps83
        go_wp2_with (go_at_call 55; refine (CW.out _).mono ?_; rintro e w1 ⟨rfl, rfl⟩)
        go_ret
        exact ⟨bool_ret (by rw [HB.out]; simp), ((Below.refl _ _).alloc (Nat.le_refl _) _).alloc (by simp) _⟩
    · go_enter Tryz.func83, Tryz.ntmps83
      go_wp2
      go_ret
      exact ⟨bool_ret (by rw [HB.out]; simp; omega), ((Below.refl _ _).alloc (Nat.le_refl _) _).alloc (by simp) _⟩
  · go_enter Tryz.func83, Tryz.ntmps83
    go_wp2
    go_ret
    exact ⟨bool_ret (by rw [HB.out]; simp; omega), ((Below.refl _ _).alloc (Nat.le_refl _) _).alloc (by simp) _⟩

set_option maxRecDepth 100000 in
set_option maxHeartbeats 1600000 in
theorem refCounts_any (T : TilD) (A : Option Addr) (n c : Nat) (w : World) (h : TilAt w T A n c) :
    Calls Tryz.prog 39 #[.agg #[.int .i64 T.x, .int .i64 T.y, .int .i64 T.a, .int .i64 T.d, .slice A n c]] w fun e w' => e = .returned (cntT T n) ∧ Kept w w' := by
  have CR := hide (fun (W : World) => refTMay_any T.x T.y T.a T.d A n c W ⟨h.a0, h.a1⟩ ⟨h.d0, h.d1⟩)
  have HM : Hid (tileB T.x T.y T.a T.d n = true → n ≤ 4194304) := fun hT => (mayB_bounds (tileB_may hT)).2.2.2.2.2.2
  have HT := hide h
  have B0 : Hid (∀ o v, (w.alloc (.cells #[.int .i64 T.x, .int .i64 T.y, .int .i64 T.a, .int .i64 T.d, .slice A n c] 56)).cell? ⟨w.heap.size, o, none⟩ = some v → ∀ W, Kept (w.alloc (.cells #[.int .i64 T.x, .int .i64 T.y, .int .i64 T.a, .int .i64 T.d, .slice A n c] 56)) W → W.cell? ⟨w.heap.size, o, none⟩ = some v) := fun o v hv W hW => (hW.cells _ _ (by simp)).trans hv
  clear h
  cases hB : tileB T.x T.y T.a T.d n with
  | false =>
    rw [hB] at CR
    have HC : Hid (cntT T n = .tuple #[.int .i64 0, .int .i64 0, .int .i64 0, .int .i64 250]) := by show cntT T n = _; unfold cntT; rw [hB]; rfl
    go_enter Tryz.func39, Tryz.ntmps39
    go_wp2_with (go_at_call 83; refine (CR.out _).mono ?_; rintro e w1 ⟨rfl, hk1⟩)
    exact bodyPost_ret (v := .tuple #[.int .i64 0, .int .i64 0, .int .i64 0, .int .i64 250]) (by simp [results, Tryz.results39, go_sem]) rfl ⟨by rw [HC.out], ((Below.refl _ _).alloc (Nat.le_refl _) _).trans (hk1.mono (by simp))⟩
  | true =>
    rw [hB] at CR
    have HC : Hid (cntT T n = .tuple #[.int .i64 (cntP 1 T.c : Nat), .int .i64 (cntP 2 T.c : Nat), .int .i64 ((n : Int) - (cntP 1 T.c : Nat) - (cntP 2 T.c : Nat)), .int .i64 0]) := by show cntT T n = _; unfold cntT; rw [hB]; rfl
    have hn := HM.out hB
    go_enter Tryz.func39, Tryz.ntmps39
    go_wp2_with (go_at_call 83; refine (CR.out _).mono ?_; rintro e w1 ⟨rfl, hk1⟩; have c4 := B0.out 4 (.slice A n c) (by simp) w1 hk1; have hz0 := lt_of_cell c4; have K1 := hide (((Below.refl _ _).alloc (Nat.le_refl _) (.cells #[.int .i64 T.x, .int .i64 T.y, .int .i64 T.a, .int .i64 T.d, .slice A n c] 56)).trans (hk1.mono (by simp))); clear hk1)
    go_loopg [6, 7, 8] n (fun gh i o ix wr => ∃ (k : Nat), k + gh = n ∧ ix = .int .i64 k ∧ i = .int .i64 (cntP 1 (T.c.take k) : Nat) ∧ o = .int .i64 (cntP 2 (T.c.take k) : Nat) ∧ w1 = wr)
    case atStart => exact ⟨0, by omega, rfl, rfl, rfl, rfl⟩
    case round =>
      obtain ⟨k, hkg, rfl, rfl, rfl, rfl⟩ := hrel
      cases gk with
      | zero =>
        have hge : ¬ (k : Int) < n := by omega
        have hkn : (k : Int) = n := by omega
        have ht : T.c.take k = T.c := by rw [List.take_of_length_le]; have := HT.out.len; omega
        rw [ht]
        have l1 := cnt_le 1 T.c
        have l2 := cnt_le 2 T.c
        have lb := cnt_both T.c
        have hln := HT.out.len
        have e3 : IntKind.i64.wrap ((n : Int) - (cntP 1 T.c : Nat)) = (n : Int) - (cntP 1 T.c : Nat) := IntWalk.i64_in _ (by omega)
        have e4 : IntKind.i64.wrap ((n : Int) - (cntP 1 T.c : Nat) - (cntP 2 T.c : Nat)) = (n : Int) - (cntP 1 T.c : Nat) - (cntP 2 T.c : Nat) := IntWalk.i64_in _ (by omega)
        go_wp2
        go_quiet (fail)
        go_wp2
        exact bodyPost_ret (v := .tuple #[.int .i64 (cntP 1 T.c : Nat), .int .i64 (cntP 2 T.c : Nat), .int .i64 ((n : Int) - (cntP 1 T.c : Nat) - (cntP 2 T.c : Nat)), .int .i64 0]) (by simp [results, Tryz.results39, go_sem]) rfl ⟨by rw [HC.out], drewN_below K1.out _⟩
      | succ gh =>
        have hlt : (k : Int) < n := by omega
        obtain ⟨x, hx⟩ : ∃ x, T.c[k]? = some x := ⟨_, List.getElem?_eq_getElem (by have := HT.out.len; omega)⟩
        have s1 := cnt_step (j := 1) hx
        have s2 := cnt_step (j := 2) hx
        have l1 := cnt_le 1 (T.c.take k)
        have l2 := cnt_le 2 (T.c.take k)
        have lk : (T.c.take k).length ≤ k := by simp; omega
        have L1 := hide s1
        have L2 := hide s2
        obtain ⟨bb, off, rfl, x0, x1, x2⟩ := wit_at (HT.out.row.kept (show Kept w w1 from K1.out)) hx
        have hbl := lt_of_cell x0
        obtain ⟨a, ha⟩ : ∃ a, a = cntP 1 (T.c.take k) := ⟨_, rfl⟩
        obtain ⟨b, hb⟩ : ∃ a, a = cntP 2 (T.c.take k) := ⟨_, rfl⟩
        rw [← ha] at l1 L1 ⊢
        rw [← hb] at l2 L2 ⊢
        clear hx s1 s2 ha hb
        have e1 : IntKind.i64.wrap ((a : Int) + 1) = ((a + 1 : Nat) : Int) := by rw [IntWalk.i64_in _ (by omega)]; simp
        have e2 : IntKind.i64.wrap ((b : Int) + 1) = ((b + 1 : Nat) : Int) := by rw [IntWalk.i64_in _ (by omega)]; simp
        rcases (show x.t = 1 ∨ (¬ x.t = 1 ∧ x.t = 2) ∨ (¬ x.t = 1 ∧ ¬ x.t = 2) by omega) with h1 | ⟨h1, h2⟩ | ⟨h1, h2⟩
        · have L1' := hide (L1.out.trans (by rw [if_pos h1]))
          have L2' := hide (L2.out.trans (by rw [if_neg (by omega)]))
          go_wp2
          go_roundg gh
          case measure => omega
          case rel => exact ⟨k + 1, by omega, by go_num, by rw [L1'.out]; simp, by rw [L2'.out]; rfl, rfl⟩
        · have L1' := hide (L1.out.trans (by rw [if_neg h1]))
          have L2' := hide (L2.out.trans (by rw [if_pos h2]))
          go_wp2
          go_roundg gh
          case measure => omega
          case rel => exact ⟨k + 1, by omega, by go_num, by rw [L1'.out]; rfl, by rw [L2'.out]; simp, rfl⟩
        · have L1' := hide (L1.out.trans (by rw [if_neg h1]))
          have L2' := hide (L2.out.trans (by rw [if_neg h2]))
          go_wp2
          go_roundg gh
          case measure => omega
          case rel => exact ⟨k + 1, by omega, by go_num, by rw [L1'.out]; rfl, by rw [L2'.out]; rfl, rfl⟩

/-- Two rectangles of the same numbers are the same. -/
theorem rect_eq (X Y U V : Int) (W : World) : (Op.equalIn 10000 38 (.agg #[.int .i64 X, .int .i64 Y, .int .i64 U, .int .i64 V]) (.agg #[.int .i64 X, .int .i64 Y, .int .i64 U, .int .i64 V])).run Tryz.prog W = .ok true W := by
  have h66 : Tryz.prog.fieldsOf 38 = #[{ name := "Column", type := 3, offset := 0, embedded := false, tag := "", pkgPath := "", byteOffset := 0 },
          { name := "Row", type := 3, offset := 1, embedded := false, tag := "", pkgPath := "", byteOffset := 8 },
          { name := "Across", type := 3, offset := 2, embedded := false, tag := "", pkgPath := "", byteOffset := 16 },
          { name := "Down", type := 3, offset := 3, embedded := false, tag := "", pkgPath := "", byteOffset := 24 }] := by kernel_rfl
  have h67 : Tryz.prog.stoodInHeld 38 = false := by kernel_rfl
  have hp : Tryz.prog.plainKey 3 = true := by kernel_rfl
  have p := fun (off : Nat) (v : Value) (h : (#[.int .i64 X, .int .i64 Y, .int .i64 U, .int .i64 V] : Array Value)[off]? = some v) => run_part_plain (P := Tryz.prog) (w := W) hp (off := off) h
  have p0 := p 0 (.int .i64 X) rfl
  have p1 := p 1 (.int .i64 Y) rfl
  have p2 := p 2 (.int .i64 U) rfl
  have p3 := p 3 (.int .i64 V) rfl
  have e : ∀ a : Int, (Op.equalIn 9999 3 (.int .i64 a) (.int .i64 a)).run Tryz.prog W = .ok (a == a) W := fun a => run_equalIn_int (P := Tryz.prog) W 9998 3 .i64 .i64 a a Tryz.underlying3
  rw [show (10000 : Nat) = 9999 + 1 from rfl, run_equalIn_agg W 9999 38 _ _ (by rw [h66]; exact Tryz.underlying38) h67, h66]
  simp [Op.eqFields, p0, p1, p2, p3, e]
/-- Two witnesses of the same numbers are the same. -/
theorem wit_eq (a b c : Int) (W : World) : (Op.equalIn 10000 69 (.agg #[.int .u8 a, .int .i64 b, .int .i64 c]) (.agg #[.int .u8 a, .int .i64 b, .int .i64 c])).run Tryz.prog W = .ok true W := by
  have h66 : Tryz.prog.fieldsOf 69 = #[{ name := "Told", type := 67, offset := 0, embedded := false, tag := "", pkgPath := "", byteOffset := 0 },
          { name := "Step", type := 3, offset := 1, embedded := false, tag := "", pkgPath := "", byteOffset := 8 },
          { name := "Trap", type := 3, offset := 2, embedded := false, tag := "", pkgPath := "", byteOffset := 16 }] := by kernel_rfl
  have h67 : Tryz.prog.stoodInHeld 69 = false := by kernel_rfl
  have hp : Tryz.prog.plainKey 3 = true := by kernel_rfl
  have hq : Tryz.prog.plainKey 67 = true := by kernel_rfl
  have p0 := run_part_plain (P := Tryz.prog) (w := W) hq (show (#[.int .u8 a, .int .i64 b, .int .i64 c] : Array Value)[0]? = some (.int .u8 a) from rfl)
  have p1 := run_part_plain (P := Tryz.prog) (w := W) hp (show (#[.int .u8 a, .int .i64 b, .int .i64 c] : Array Value)[1]? = some (.int .i64 b) from rfl)
  have p2 := run_part_plain (P := Tryz.prog) (w := W) hp (show (#[.int .u8 a, .int .i64 b, .int .i64 c] : Array Value)[2]? = some (.int .i64 c) from rfl)
  have e : ∀ a : Int, (Op.equalIn 9999 3 (.int .i64 a) (.int .i64 a)).run Tryz.prog W = .ok (a == a) W := fun a => run_equalIn_int (P := Tryz.prog) W 9998 3 .i64 .i64 a a Tryz.underlying3
  have e' : ∀ a : Int, (Op.equalIn 9999 67 (.int .u8 a) (.int .u8 a)).run Tryz.prog W = .ok (a == a) W := fun a => run_equalIn_int (P := Tryz.prog) W 9998 67 .u8 .u8 a a Tryz.underlying67
  rw [show (10000 : Nat) = 9999 + 1 from rfl, run_equalIn_agg W 9999 69 _ _ (by rw [h66]; exact Tryz.underlying69) h67, h66]
  simp [Op.eqFields, p0, p1, p2, e, e']
set_option maxRecDepth 100000 in
set_option maxHeartbeats 1600000 in
/-- The document's Same: of tiles of the same cells it says yes. -/
theorem refTSame_yes (x y a d : Int) (A B : Option Addr) (n c c' : Nat) (C : List Wit) (w : World) (hn : C.length = n) (hm : n ≤ 4611686018427387904) (hA : Row w A (witV C)) (hB : Row w B (witV C)) :
    Calls Tryz.prog 29 #[.agg #[.int .i64 x, .int .i64 y, .int .i64 a, .int .i64 d, .slice A n c], .agg #[.int .i64 x, .int .i64 y, .int .i64 a, .int .i64 d, .slice B n c']] w fun e w' => e = .returned (.bool true) ∧ Kept w w' := by
  have hre := rect_eq x y a d
  have HA := hide hA
  have HB := hide hB
  have HN := hide hn
  clear hA hB hn
  go_enter Tryz.func29, Tryz.ntmps29
  have K0 : Hid (Kept w ((w.alloc (.cells #[.int .i64 x, .int .i64 y, .int .i64 a, .int .i64 d, .slice A n c] 56)).alloc (.cells #[.int .i64 x, .int .i64 y, .int .i64 a, .int .i64 d, .slice B n c'] 56))) := ((Below.refl _ _).alloc (Nat.le_refl _) _).alloc (by simp) _
  have c0 : ((w.alloc (.cells #[.int .i64 x, .int .i64 y, .int .i64 a, .int .i64 d, .slice A n c] 56)).alloc (.cells #[.int .i64 x, .int .i64 y, .int .i64 a, .int .i64 d, .slice B n c'] 56)).cell? ⟨w.heap.size, 4, none⟩ = some (.slice A n c) := by simp
  have c1 : ((w.alloc (.cells #[.int .i64 x, .int .i64 y, .int .i64 a, .int .i64 d, .slice A n c] 56)).alloc (.cells #[.int .i64 x, .int .i64 y, .int .i64 a, .int .i64 d, .slice B n c'] 56)).cell? ⟨w.heap.size + 1, 4, none⟩ = some (.slice B n c') := by simp
  go_wp2
  generalize ((w.alloc (.cells #[.int .i64 x, .int .i64 y, .int .i64 a, .int .i64 d, .slice A n c] 56)).alloc (.cells #[.int .i64 x, .int .i64 y, .int .i64 a, .int .i64 d, .slice B n c'] 56)) = X at *
  go_loopg [5] n (fun gh ix wr => ∃ (k m : Nat), k + gh = n ∧ ix = .int .i64 k ∧ wr = X.drewN m)
  case atStart => exact ⟨0, 0, by omega, rfl, rfl⟩
  case round =>
    obtain ⟨k, m, hkg, rfl, rfl⟩ := hrel
    cases gk with
    | zero =>
      have hge : ¬ (k : Int) < n := by omega
      go_wp2
      go_ret
      exact ⟨rfl, drewN_below K0.out _⟩
    | succ gh =>
      have hlt : (k : Int) < n := by omega
      have hk1 : IntKind.i64.wrap ((k : Int) + 1) = (k : Int) + 1 := IntWalk.i64_in _ (by omega)
      obtain ⟨u, hu⟩ : ∃ u, C[k]? = some u := ⟨_, List.getElem?_eq_getElem (by have := HN.out; omega)⟩
      obtain ⟨b1, o1, rfl, x0, x1, x2⟩ := wit_at (HA.out.kept (show Kept w X from K0.out)) hu
      obtain ⟨b2, o2, rfl, y0, y1, y2⟩ := wit_at (HB.out.kept (show Kept w X from K0.out)) hu
      have hwe := wit_eq u.t u.s u.r
      have hb1 := lt_of_cell x0
      have hb2 := lt_of_cell y0
      clear hu hre
      go_wp2
      go_quiet (fail)
      go_wp2
      go_roundg gh
      case measure => omega
      case rel => exact ⟨k + 1, m + nq, by omega, by go_num, by simp [World.drewN, Nat.add_assoc]⟩
end Go.Proofs.YtneakieigiafpaaGreatDoor

/- A piece of a tile, cut out by the program and by the document: what it is; which pieces there are. -/
namespace Go.Proofs.YtneakieigiafpaaGreatDoor
open Go.RowKit

/-- Does a rectangle lie in a tile's? -/
def fitB (x y a d rx ry ra rd : Int) : Bool := decide (1 ≤ ra ∧ 1 ≤ rd ∧ x ≤ rx ∧ y ≤ ry ∧ rx + ra ≤ x + a ∧ ry + rd ≤ y + d)
set_option maxRecDepth 100000 in
set_option maxHeartbeats 3200000 in
theorem tof_any (x y a d rx ry ra rd : Int) (w : World) (x0 : 0 ≤ x) (x1 : x ≤ 9223372036854775807) (y0 : 0 ≤ y) (y1 : y ≤ 9223372036854775807) (a0 : 1 ≤ a) (a1 : a ≤ 4194304) (d0 : 1 ≤ d) (d1 : d ≤ 4194304) (hrx : in64 rx) (hry : in64 ry) (hra : in64 ra) (hrd : in64 rd) :
    Calls Tryz.prog 63 #[.agg #[.int .i64 rx, .int .i64 ry, .int .i64 ra, .int .i64 rd], .int .i64 x, .int .i64 y, .int .i64 a, .int .i64 d] w fun e w' => e = .returned (.bool (fitB x y a d rx ry ra rd)) ∧ Kept w w' := by
  obtain ⟨rx0, rx1⟩ := hrx
  obtain ⟨ry0, ry1⟩ := hry
  obtain ⟨ra0, ra1⟩ := hra
  obtain ⟨rd0, rd1⟩ := hrd
  obtain ⟨B, hB⟩ : ∃ B, B = fitB x y a d rx ry ra rd := ⟨_, rfl⟩
  have HB : Hid (B = decide (1 ≤ ra ∧ 1 ≤ rd ∧ x ≤ rx ∧ y ≤ ry ∧ rx + ra ≤ x + a ∧ ry + rd ≤ y + d)) := hB
  rw [← hB]
  clear hB
  by_cases s1 : 1 ≤ ra
  case neg =>
    try have u1 : IntKind.i64.wrap (rx - x) = rx - x := IntWalk.i64_in _ (by omega)
    try have u2 : IntKind.i64.wrap (ry - y) = ry - y := IntWalk.i64_in _ (by omega)
    try have u3 : IntKind.i64.wrap (a - ra) = a - ra := IntWalk.i64_in _ (by omega)
    try have u4 : IntKind.i64.wrap (d - rd) = d - rd := IntWalk.i64_in _ (by omega)
    go_enter Tryz.func63, Tryz.ntmps63
    go_wp2
    go_ret
    exact ⟨bool_ret (by rw [HB.out, Bool.eq_iff_iff]; simp; omega), (Below.refl _ _).alloc (Nat.le_refl _) _⟩
  case pos =>
    by_cases s2 : 1 ≤ rd
    case neg =>
      try have u1 : IntKind.i64.wrap (rx - x) = rx - x := IntWalk.i64_in _ (by omega)
      try have u2 : IntKind.i64.wrap (ry - y) = ry - y := IntWalk.i64_in _ (by omega)
      try have u3 : IntKind.i64.wrap (a - ra) = a - ra := IntWalk.i64_in _ (by omega)
      try have u4 : IntKind.i64.wrap (d - rd) = d - rd := IntWalk.i64_in _ (by omega)
      go_enter Tryz.func63, Tryz.ntmps63
      go_wp2
      go_ret
      exact ⟨bool_ret (by rw [HB.out, Bool.eq_iff_iff]; simp; omega), (Below.refl _ _).alloc (Nat.le_refl _) _⟩
    case pos =>
      by_cases s3 : x ≤ rx
      case neg =>
        try have u1 : IntKind.i64.wrap (rx - x) = rx - x := IntWalk.i64_in _ (by omega)
        try have u2 : IntKind.i64.wrap (ry - y) = ry - y := IntWalk.i64_in _ (by omega)
        try have u3 : IntKind.i64.wrap (a - ra) = a - ra := IntWalk.i64_in _ (by omega)
        try have u4 : IntKind.i64.wrap (d - rd) = d - rd := IntWalk.i64_in _ (by omega)
        go_enter Tryz.func63, Tryz.ntmps63
        go_wp2
        go_ret
        exact ⟨bool_ret (by rw [HB.out, Bool.eq_iff_iff]; simp; omega), (Below.refl _ _).alloc (Nat.le_refl _) _⟩
      case pos =>
        by_cases s4 : y ≤ ry
        case neg =>
          try have u1 : IntKind.i64.wrap (rx - x) = rx - x := IntWalk.i64_in _ (by omega)
          try have u2 : IntKind.i64.wrap (ry - y) = ry - y := IntWalk.i64_in _ (by omega)
          try have u3 : IntKind.i64.wrap (a - ra) = a - ra := IntWalk.i64_in _ (by omega)
          try have u4 : IntKind.i64.wrap (d - rd) = d - rd := IntWalk.i64_in _ (by omega)
          go_enter Tryz.func63, Tryz.ntmps63
          go_wp2
          go_ret
          exact ⟨bool_ret (by rw [HB.out, Bool.eq_iff_iff]; simp; omega), (Below.refl _ _).alloc (Nat.le_refl _) _⟩
        case pos =>
          by_cases s5 : ra ≤ a
          case neg =>
            try have u1 : IntKind.i64.wrap (rx - x) = rx - x := IntWalk.i64_in _ (by omega)
            try have u2 : IntKind.i64.wrap (ry - y) = ry - y := IntWalk.i64_in _ (by omega)
            try have u3 : IntKind.i64.wrap (a - ra) = a - ra := IntWalk.i64_in _ (by omega)
            try have u4 : IntKind.i64.wrap (d - rd) = d - rd := IntWalk.i64_in _ (by omega)
            go_enter Tryz.func63, Tryz.ntmps63
            go_wp2
            go_ret
            exact ⟨bool_ret (by rw [HB.out, Bool.eq_iff_iff]; simp; omega), (Below.refl _ _).alloc (Nat.le_refl _) _⟩
          case pos =>
            by_cases s6 : rd ≤ d
            case neg =>
              try have u1 : IntKind.i64.wrap (rx - x) = rx - x := IntWalk.i64_in _ (by omega)
              try have u2 : IntKind.i64.wrap (ry - y) = ry - y := IntWalk.i64_in _ (by omega)
              try have u3 : IntKind.i64.wrap (a - ra) = a - ra := IntWalk.i64_in _ (by omega)
              try have u4 : IntKind.i64.wrap (d - rd) = d - rd := IntWalk.i64_in _ (by omega)
              go_enter Tryz.func63, Tryz.ntmps63
              go_wp2
              go_ret
              exact ⟨bool_ret (by rw [HB.out, Bool.eq_iff_iff]; simp; omega), (Below.refl _ _).alloc (Nat.le_refl _) _⟩
            case pos =>
              by_cases s7 : rx + ra ≤ x + a
              case neg =>
                try have u1 : IntKind.i64.wrap (rx - x) = rx - x := IntWalk.i64_in _ (by omega)
                try have u2 : IntKind.i64.wrap (ry - y) = ry - y := IntWalk.i64_in _ (by omega)
                try have u3 : IntKind.i64.wrap (a - ra) = a - ra := IntWalk.i64_in _ (by omega)
                try have u4 : IntKind.i64.wrap (d - rd) = d - rd := IntWalk.i64_in _ (by omega)
                go_enter Tryz.func63, Tryz.ntmps63
                go_wp2
                go_ret
                exact ⟨bool_ret (by rw [HB.out, Bool.eq_iff_iff]; simp; omega), (Below.refl _ _).alloc (Nat.le_refl _) _⟩
              case pos =>
                by_cases s8 : ry + rd ≤ y + d
                case neg =>
                  try have u1 : IntKind.i64.wrap (rx - x) = rx - x := IntWalk.i64_in _ (by omega)
                  try have u2 : IntKind.i64.wrap (ry - y) = ry - y := IntWalk.i64_in _ (by omega)
                  try have u3 : IntKind.i64.wrap (a - ra) = a - ra := IntWalk.i64_in _ (by omega)
                  try have u4 : IntKind.i64.wrap (d - rd) = d - rd := IntWalk.i64_in _ (by omega)
                  go_enter Tryz.func63, Tryz.ntmps63
                  go_wp2
                  go_ret
                  exact ⟨bool_ret (by rw [HB.out, Bool.eq_iff_iff]; simp; omega), (Below.refl _ _).alloc (Nat.le_refl _) _⟩
                case pos =>
                  try have u1 : IntKind.i64.wrap (rx - x) = rx - x := IntWalk.i64_in _ (by omega)
                  try have u2 : IntKind.i64.wrap (ry - y) = ry - y := IntWalk.i64_in _ (by omega)
                  try have u3 : IntKind.i64.wrap (a - ra) = a - ra := IntWalk.i64_in _ (by omega)
                  try have u4 : IntKind.i64.wrap (d - rd) = d - rd := IntWalk.i64_in _ (by omega)
                  go_enter Tryz.func63, Tryz.ntmps63
                  go_wp2
                  go_ret
                  exact ⟨bool_ret (by rw [HB.out, Bool.eq_iff_iff]; simp; omega), (Below.refl _ _).alloc (Nat.le_refl _) _⟩
set_option maxRecDepth 100000 in
set_option maxHeartbeats 3200000 in
theorem refFits_any (a d rx ry ra rd : Int) (w : World) (a0 : 1 ≤ a) (a1 : a ≤ 4194304) (d0 : 1 ≤ d) (d1 : d ≤ 4194304) (hrx : in64 rx) (hry : in64 ry) (hra : in64 ra) (hrd : in64 rd) :
    Calls Tryz.prog 84 #[.agg #[.int .i64 rx, .int .i64 ry, .int .i64 ra, .int .i64 rd], .int .i64 a, .int .i64 d] w fun e w' => e = .returned (.bool (fitB 0 0 a d rx ry ra rd)) ∧ Kept w w' := by
  obtain ⟨rx0, rx1⟩ := hrx
  obtain ⟨ry0, ry1⟩ := hry
  obtain ⟨ra0, ra1⟩ := hra
  obtain ⟨rd0, rd1⟩ := hrd
  obtain ⟨B, hB⟩ : ∃ B, B = fitB 0 0 a d rx ry ra rd := ⟨_, rfl⟩
  have HB : Hid (B = decide (1 ≤ ra ∧ 1 ≤ rd ∧ 0 ≤ rx ∧ 0 ≤ ry ∧ rx + ra ≤ 0 + a ∧ ry + rd ≤ 0 + d)) := hB
  rw [← hB]
  clear hB
  by_cases s1 : 0 ≤ rx
  case neg =>
    try have u3 : IntKind.i64.wrap (a - ra) = a - ra := IntWalk.i64_in _ (by omega)
    try have u4 : IntKind.i64.wrap (d - rd) = d - rd := IntWalk.i64_in _ (by omega)
    go_enter Tryz.func84, Tryz.ntmps84
    go_wp2
    go_ret
    exact ⟨bool_ret (by rw [HB.out, Bool.eq_iff_iff]; simp; omega), (Below.refl _ _).alloc (Nat.le_refl _) _⟩
  case pos =>
    by_cases s2 : 0 ≤ ry
    case neg =>
      try have u3 : IntKind.i64.wrap (a - ra) = a - ra := IntWalk.i64_in _ (by omega)
      try have u4 : IntKind.i64.wrap (d - rd) = d - rd := IntWalk.i64_in _ (by omega)
      go_enter Tryz.func84, Tryz.ntmps84
      go_wp2
      go_ret
      exact ⟨bool_ret (by rw [HB.out, Bool.eq_iff_iff]; simp; omega), (Below.refl _ _).alloc (Nat.le_refl _) _⟩
    case pos =>
      by_cases s3 : 1 ≤ ra
      case neg =>
        try have u3 : IntKind.i64.wrap (a - ra) = a - ra := IntWalk.i64_in _ (by omega)
        try have u4 : IntKind.i64.wrap (d - rd) = d - rd := IntWalk.i64_in _ (by omega)
        go_enter Tryz.func84, Tryz.ntmps84
        go_wp2
        go_ret
        exact ⟨bool_ret (by rw [HB.out, Bool.eq_iff_iff]; simp; omega), (Below.refl _ _).alloc (Nat.le_refl _) _⟩
      case pos =>
        by_cases s4 : 1 ≤ rd
        case neg =>
          try have u3 : IntKind.i64.wrap (a - ra) = a - ra := IntWalk.i64_in _ (by omega)
          try have u4 : IntKind.i64.wrap (d - rd) = d - rd := IntWalk.i64_in _ (by omega)
          go_enter Tryz.func84, Tryz.ntmps84
          go_wp2
          go_ret
          exact ⟨bool_ret (by rw [HB.out, Bool.eq_iff_iff]; simp; omega), (Below.refl _ _).alloc (Nat.le_refl _) _⟩
        case pos =>
          by_cases s5 : ra ≤ a
          case neg =>
            try have u3 : IntKind.i64.wrap (a - ra) = a - ra := IntWalk.i64_in _ (by omega)
            try have u4 : IntKind.i64.wrap (d - rd) = d - rd := IntWalk.i64_in _ (by omega)
            go_enter Tryz.func84, Tryz.ntmps84
            go_wp2
            go_ret
            exact ⟨bool_ret (by rw [HB.out, Bool.eq_iff_iff]; simp; omega), (Below.refl _ _).alloc (Nat.le_refl _) _⟩
          case pos =>
            by_cases s6 : rd ≤ d
            case neg =>
              try have u3 : IntKind.i64.wrap (a - ra) = a - ra := IntWalk.i64_in _ (by omega)
              try have u4 : IntKind.i64.wrap (d - rd) = d - rd := IntWalk.i64_in _ (by omega)
              go_enter Tryz.func84, Tryz.ntmps84
              go_wp2
              go_ret
              exact ⟨bool_ret (by rw [HB.out, Bool.eq_iff_iff]; simp; omega), (Below.refl _ _).alloc (Nat.le_refl _) _⟩
            case pos =>
              by_cases s7 : rx + ra ≤ a
              case neg =>
                try have u3 : IntKind.i64.wrap (a - ra) = a - ra := IntWalk.i64_in _ (by omega)
                try have u4 : IntKind.i64.wrap (d - rd) = d - rd := IntWalk.i64_in _ (by omega)
                go_enter Tryz.func84, Tryz.ntmps84
                go_wp2
                go_ret
                exact ⟨bool_ret (by rw [HB.out, Bool.eq_iff_iff]; simp; omega), (Below.refl _ _).alloc (Nat.le_refl _) _⟩
              case pos =>
                by_cases s8 : ry + rd ≤ d
                case neg =>
                  try have u3 : IntKind.i64.wrap (a - ra) = a - ra := IntWalk.i64_in _ (by omega)
                  try have u4 : IntKind.i64.wrap (d - rd) = d - rd := IntWalk.i64_in _ (by omega)
                  go_enter Tryz.func84, Tryz.ntmps84
                  go_wp2
                  go_ret
                  exact ⟨bool_ret (by rw [HB.out, Bool.eq_iff_iff]; simp; omega), (Below.refl _ _).alloc (Nat.le_refl _) _⟩
                case pos =>
                  try have u3 : IntKind.i64.wrap (a - ra) = a - ra := IntWalk.i64_in _ (by omega)
                  try have u4 : IntKind.i64.wrap (d - rd) = d - rd := IntWalk.i64_in _ (by omega)
                  go_enter Tryz.func84, Tryz.ntmps84
                  go_wp2
                  go_ret
                  exact ⟨bool_ret (by rw [HB.out, Bool.eq_iff_iff]; simp; omega), (Below.refl _ _).alloc (Nat.le_refl _) _⟩
end Go.Proofs.YtneakieigiafpaaGreatDoor

/- tile.Cut, walked. -/
namespace Go.Proofs.YtneakieigiafpaaGreatDoor
open Go.RowKit

theorem wrap_cancel {p r x : Int} (h0 : -9223372036854775808 ≤ p + r - x) (h1 : p + r - x ≤ 9223372036854775807) : IntKind.i64.wrap (IntKind.i64.wrap (p + r) - x) = p + r - x := by
  rw [IntKind.wrap_i64, IntKind.wrap_i64]; omega
/-- Rows of a piece: k rows of ra cells, the first from place f on, each A cells behind the one before. -/
def cutC (C : List Wit) (A f ra : Nat) : Nat → List Wit
  | 0 => []
  | k + 1 => cutC C A f ra k ++ (C.drop (f + k * A)).take ra
theorem cutC_length (C : List Wit) (A f ra : Nat) : ∀ k, (∀ j, j < k → f + j * A + ra ≤ C.length) → (cutC C A f ra k).length = k * ra
  | 0, _ => by simp [cutC]
  | k + 1, h => by
    have h1 := cutC_length C A f ra k fun j hj => h j (by omega)
    have h2 := h k (by omega)
    have h3 : ((C.drop (f + k * A)).take ra).length = ra := by simp; omega
    rw [cutC, List.length_append, h1, h3, Nat.add_mul, Nat.one_mul]
/-- What comes of a cut. -/
def cutE (T : TilD) (n : Nat) (rx ry ra rd : Int) : Int := if tileB T.x T.y T.a T.d n then (if fitB T.x T.y T.a T.d rx ry ra rd then 0 else 241) else 250
def cutP (T : TilD) (rx ry ra rd : Int) : List Wit := cutC T.c T.a.toNat ((ry - T.y) * T.a + (rx - T.x)).toNat ra.toNat rd.toNat
def CutPost (w : World) (E rx ry ra rd : Int) (C : List Wit) (e : Ending) (w' : World) : Prop :=
  (if E = 0 then ∃ v, e = .returned (.tuple #[.agg #[.int .i64 rx, .int .i64 ry, .int .i64 ra, .int .i64 rd, v], .int .i64 0]) ∧ Own w' w.heap.size 3 v C.length (witV C)
   else e = .returned (.tuple #[.agg #[.int .i64 0, .int .i64 0, .int .i64 0, .int .i64 0, .slice none 0 0], .int .i64 E])) ∧ Kept w w'
theorem T0Box.stored {w W : World} {b : Nat} (h : T0Box W b) (hk : Kept w W) (hb : w.heap.size ≤ b) (x0 x1 x2 x3 x4 : Value) : Kept w (((((W.setCell ⟨b, 0, none⟩ x0).setCell ⟨b, 1, none⟩ x1).setCell ⟨b, 2, none⟩ x2).setCell ⟨b, 3, none⟩ x3).setCell ⟨b, 4, none⟩ x4) :=
  ((((hk.setCell (p := ⟨b, 0, none⟩) hb _).setCell (p := ⟨b, 1, none⟩) hb _).setCell (p := ⟨b, 2, none⟩) hb _).setCell (p := ⟨b, 3, none⟩) hb _).setCell (p := ⟨b, 4, none⟩) hb _
/-- A rectangle in a box. -/
structure RcB (W : World) (b : Nat) (x y u v : Int) : Prop where
  c0 : W.cell? ⟨b, 0, none⟩ = some (.int .i64 x)
  c1 : W.cell? ⟨b, 1, none⟩ = some (.int .i64 y)
  c2 : W.cell? ⟨b, 2, none⟩ = some (.int .i64 u)
  c3 : W.cell? ⟨b, 3, none⟩ = some (.int .i64 v)
theorem RcB.lt {W : World} {b : Nat} {x y u v : Int} (h : RcB W b x y u v) : b < W.heap.size := lt_of_cell h.c0
theorem RcB.below {W W' : World} {b B : Nat} {x y u v : Int} (h : RcB W b x y u v) (k : Below B W W') (hb : b < B) : RcB W' b x y u v :=
  ⟨(k.cell (p := ⟨b, 0, none⟩) hb).trans h.c0, (k.cell (p := ⟨b, 1, none⟩) hb).trans h.c1, (k.cell (p := ⟨b, 2, none⟩) hb).trans h.c2, (k.cell (p := ⟨b, 3, none⟩) hb).trans h.c3⟩
theorem RcB.new (W : World) (t : TypeId) (x y u v : Int) (b : Nat) (hb : b = W.heap.size) : RcB (W.alloc (.cells #[.int .i64 x, .int .i64 y, .int .i64 u, .int .i64 v] t)) b x y u v := by subst hb; exact ⟨by simp, by simp, by simp, by simp⟩
theorem LBox.below {W W' : World} {b B : Nat} {x y u v : Int} {A : Option Addr} {n c : Nat} (h : LBox W b x y u v A n c) (k : Below B W W') (hb : b < B) : LBox W' b x y u v A n c := h.far fun o => k.cell (p := ⟨b, o, none⟩) hb
/-- The cut's own boxes. -/
structure CB (w W : World) (T : TilD) (A : Option Addr) (n c : Nat) (rx ry ra rd : Int) : Prop where
  t : LBox W w.heap.size T.x T.y T.a T.d A n c
  r : RcB W (w.heap.size + 1) rx ry ra rd
  z : T0Box W (w.heap.size + 1 + 1)
  k : Kept w W
theorem CB.below {w W W' : World} {T : TilD} {A : Option Addr} {n c B : Nat} {rx ry ra rd : Int} (h : CB w W T A n c rx ry ra rd) (k : Below B W W') (hb : w.heap.size + 1 + 1 < B) : CB w W' T A n c rx ry ra rd :=
  ⟨h.t.below k (by omega), h.r.below k (by omega), h.z.below k hb, h.k.trans (k.mono (by omega))⟩
theorem CB.kept {w W W' : World} {T : TilD} {A : Option Addr} {n c : Nat} {rx ry ra rd : Int} (h : CB w W T A n c rx ry ra rd) (k : Kept W W') : CB w W' T A n c rx ry ra rd := h.below k h.z.lt
theorem CB.new (w : World) (T : TilD) (A : Option Addr) (n c : Nat) (rx ry ra rd : Int) : CB w (((w.alloc (.cells #[.int .i64 T.x, .int .i64 T.y, .int .i64 T.a, .int .i64 T.d, .slice A n c] 56)).alloc (.cells #[.int .i64 rx, .int .i64 ry, .int .i64 ra, .int .i64 rd] 38)).alloc (.cells #[.int .i64 0, .int .i64 0, .int .i64 0, .int .i64 0, .slice none 0 0] 56)) T A n c rx ry ra rd := by
  refine ⟨((LBox.new w _ _ _ _ _ _ _ _ _ rfl).kept ((Below.refl _ _).alloc (Nat.le_refl _) _)).kept ((Below.refl _ _).alloc (Nat.le_refl _) _), (RcB.new _ _ _ _ _ _ _ (by simp)).below ((Below.refl _ _).alloc (Nat.le_refl _) _) (by simp), T0Box.new _ _ _ (by simp), (((Below.refl _ w).alloc (Nat.le_refl _) _).alloc (by simp) _).alloc (by first | (simp; done) | (simp; omega)) _⟩

theorem info_witC : (Tryz.prog.info? 69).map (fun i => (i.zero, i.size, i.bytes)) = some (some (.agg #[.int .u8 0, .int .i64 0, .int .i64 0]), 3, 24) := by kernel_rfl
/-- The loop over the rows. -/
def CutRel (w2 : World) (C : List Wit) (an f s t : Nat) (rx ry ra rd : Int) (gh : Nat) (ix : Value) (wr : World) : Prop :=
  ∃ (k m : Nat) (A2 : Option Addr) (c2 : Nat), k + gh = t ∧ ix = .int .i64 k ∧ LBox wr w2.heap.size rx ry ra rd A2 m c2 ∧ wr.frozen? ⟨w2.heap.size, 4, none⟩ = false ∧
    Own wr (w2.heap.size + 1) 3 (.slice A2 m c2) m (witV (cutC C an f s k)) ∧ w2.heap.size < wr.heap.size ∧ Below w2.heap.size w2 wr
theorem rel_cut {w2 wr w5 : World} {C : List Wit} {an f s t k m gh c5 : Nat} {rx ry ra rd : Int} {A2 A5 : Option Addr} {c2 : Nat} (hbx : LBox wr w2.heap.size rx ry ra rd A2 m c2) (hbw : Below w2.heap.size w2 wr) (hb5 : Below (w2.heap.size + 1) wr w5)
    (ho : Own w5 (w2.heap.size + 1) 3 (.slice A5 (m + s) c5) (m + s) (witV (cutC C an f s k) ++ witV ((C.drop (f + k * an)).take s))) (hf : w5.frozen? ⟨w2.heap.size, 4, none⟩ = false) (hkg : k + (gh + 1) = t) (hz : w2.heap.size < wr.heap.size) :
    CutRel w2 C an f s t rx ry ra rd gh (.int .i64 ((k : Int) + 1)) (w5.setCell ⟨w2.heap.size, 4, none⟩ (.slice A5 (m + s) c5)) := by
  have hz5 : w2.heap.size < w5.heap.size := Nat.lt_of_lt_of_le hz hb5.size
  have h5 := hbx.below hb5 (by omega)
  refine ⟨k + 1, m + s, A5, c5, by omega, by go_num, ⟨?_, ?_, ?_, ?_, ?_⟩, ?_, ?_, by simpa [World.setCell] using hz5, (hbw.trans (hb5.mono (by omega))).setCell (by simp) _⟩
  · rw [World.cell?_setCell_other _ _ _ _ (by simp)]; exact h5.t0
  · rw [World.cell?_setCell_other _ _ _ _ (by simp)]; exact h5.t1
  · rw [World.cell?_setCell_other _ _ _ _ (by simp)]; exact h5.t2
  · rw [World.cell?_setCell_other _ _ _ _ (by simp)]; exact h5.t3
  · rw [World.cell?_setCell_same _ _ _ h5.t4]
  · rw [World.frozen?_setCell]; exact hf
  · rw [cutC, witV_append]
    exact ho.far (fun k hk => by have := (ho.lt k hk).1; simp; omega) _

theorem cut_ok {w w2 wr : World} {T : TilD} {A A2 : Option Addr} {n c m c2 s t k an f : Nat} {rx ry : Int} (ho : Own wr (w2.heap.size + 1) 3 (.slice A2 m c2) m (witV (cutC T.c an f s k))) (hk : k = t) (hb : CB w wr T A n c rx ry s t) (hz : w.heap.size + 1 + 1 < w2.heap.size) :
    CutPost w 0 rx ry s t (cutC T.c an f s t) (.returned (.tuple #[.agg #[.int .i64 rx, .int .i64 ry, .int .i64 s, .int .i64 t, .slice A2 m c2], .int .i64 0])) (((((wr.setCell ⟨w.heap.size + 1 + 1, 0, none⟩ (.int .i64 rx)).setCell ⟨w.heap.size + 1 + 1, 1, none⟩ (.int .i64 ry)).setCell ⟨w.heap.size + 1 + 1, 2, none⟩ (.int .i64 s)).setCell ⟨w.heap.size + 1 + 1, 3, none⟩ (.int .i64 t)).setCell ⟨w.heap.size + 1 + 1, 4, none⟩ (.slice A2 m c2)) := by
  subst hk
  have hne : ∀ j, (Value.slice A2 m c2).ownBlock = some j → j ≠ w.heap.size + 1 + 1 := fun j hj => by have := (ho.lt j hj).1; omega
  have hm : m = (cutC T.c an f s k).length := by have := ho.1; rw [witV_length] at this; omega
  refine ⟨?_, hb.z.stored hb.k (by omega) _ _ _ _ _⟩
  rw [if_pos rfl, ← hm]
  exact ⟨_, rfl, (((((ho.less (base' := w.heap.size) (by omega)).far (p := ⟨w.heap.size + 1 + 1, 0, none⟩) hne _).far (p := ⟨w.heap.size + 1 + 1, 1, none⟩) hne _).far (p := ⟨w.heap.size + 1 + 1, 2, none⟩) hne _).far (p := ⟨w.heap.size + 1 + 1, 3, none⟩) hne _).far (p := ⟨w.heap.size + 1 + 1, 4, none⟩) hne _⟩

set_option maxRecDepth 100000 in
set_option maxHeartbeats 3200000 in
theorem tcut_any (T : TilD) (A : Option Addr) (n c : Nat) (rx ry ra rd : Int) (w : World) (h : TilAt w T A n c) (hrx : in64 rx) (hry : in64 ry) (hra : in64 ra) (hrd : in64 rd) :
    Calls Tryz.prog 41 #[.agg #[.int .i64 T.x, .int .i64 T.y, .int .i64 T.a, .int .i64 T.d, .slice A n c], .agg #[.int .i64 rx, .int .i64 ry, .int .i64 ra, .int .i64 rd]] w (CutPost w (cutE T n rx ry ra rd) rx ry ra rd (cutP T rx ry ra rd)) := by
  have CR := hide (fun (W : World) => tright_any T.x T.y T.a T.d A n c W h.a0 h.a1 h.d0 h.d1 h.x0 h.y0)
  obtain ⟨W0, hW0⟩ : ∃ W0, W0 = ((w.alloc (.cells #[.int .i64 T.x, .int .i64 T.y, .int .i64 T.a, .int .i64 T.d, .slice A n c] 56)).alloc (.cells #[.int .i64 rx, .int .i64 ry, .int .i64 ra, .int .i64 rd] 38)).alloc (.cells #[.int .i64 0, .int .i64 0, .int .i64 0, .int .i64 0, .slice none 0 0] 56) := ⟨_, rfl⟩
  have B0 := hide (show CB w W0 T A n c rx ry ra rd by rw [hW0]; exact CB.new w T A n c rx ry ra rd)
  obtain ⟨E, hE⟩ : ∃ E, E = cutE T n rx ry ra rd := ⟨_, rfl⟩
  rw [← hE]
  have HT := hide h
  cases hB : tileB T.x T.y T.a T.d n with
  | false =>
    rw [hB] at CR
    obtain rfl : E = 250 := by rw [hE]; simp [cutE, hB]
    clear hE h hB
    go_enter Tryz.func41, Tryz.ntmps41
    go_upto_region 1 with fail
    rw [← hW0]
    clear hW0
    obtain ⟨⟨t0, t1, t2, t3, t4⟩, ⟨r0, r1, r2, r3⟩, ⟨z0, z1, z2, z3, z4, f0, f1, f2, f3, f4⟩, -⟩ := B0.out
    go_wp2_with (go_at_call 64; refine (CR.out _).mono ?_; rintro e w1 ⟨rfl, hk1⟩; have B1 := hide (B0.out.kept hk1); clear t0 t1 t2 t3 t4 r0 r1 r2 r3 z0 z1 z2 z3 z4 f0 f1 f2 f3 f4 hk1; obtain ⟨z0, z1, z2, z3, z4, f0, f1, f2, f3, f4⟩ := B1.out.z; have hz := B1.out.z.lt)
    exact bodyPost_ret (v := .tuple #[.agg #[.int .i64 0, .int .i64 0, .int .i64 0, .int .i64 0, .slice none 0 0], .int .i64 250]) (by simp [results, Tryz.results41, go_sem, z0, z1, z2, z3, z4]) rfl ⟨by simp, B1.out.z.stored B1.out.k (by omega) _ _ _ _ _⟩
  | true =>
    rw [hB] at CR
    obtain ⟨v1, v2, v3, v4, v5, v6, v7⟩ := mayB_bounds (tileB_may hB)
    have hxy : 0 ≤ T.x ∧ 0 ≤ T.y := by simp [tileB] at hB; omega
    obtain ⟨hx0, hy0⟩ := hxy
    have CF := hide (fun (W : World) => tof_any T.x T.y T.a T.d rx ry ra rd W hx0 h.x1 hy0 h.y1 v1 v2 v3 v4 hrx hry hra hrd)
    have hEf : E = if fitB T.x T.y T.a T.d rx ry ra rd then 0 else 241 := by rw [hE]; simp [cutE, hB]
    clear hE
    cases hF : fitB T.x T.y T.a T.d rx ry ra rd with
    | false =>
      rw [hF] at CF
      obtain rfl : E = 241 := by rw [hEf, hF]; rfl
      clear hEf h hB v1 v2 v3 v4 v5 v6 v7 hx0 hy0 hF hrx hry hra hrd
      go_enter Tryz.func41, Tryz.ntmps41
      go_upto_region 1 with fail
      rw [← hW0]
      clear hW0
      obtain ⟨⟨t0, t1, t2, t3, t4⟩, ⟨r0, r1, r2, r3⟩, ⟨z0, z1, z2, z3, z4, f0, f1, f2, f3, f4⟩, -⟩ := B0.out
      go_wp2_with (go_at_call 64; refine (CR.out _).mono ?_; rintro e w1 ⟨rfl, hk1⟩; have B1 := hide (B0.out.kept hk1); clear t0 t1 t2 t3 t4 r0 r1 r2 r3 z0 z1 z2 z3 z4 f0 f1 f2 f3 f4 hk1; obtain ⟨⟨t0, t1, t2, t3, t4⟩, ⟨r0, r1, r2, r3⟩, ⟨z0, z1, z2, z3, z4, f0, f1, f2, f3, f4⟩, -⟩ := B1.out; have hz := B1.out.z.lt)
      refine (CF.out _).mono ?_
      rintro e w2 ⟨rfl, hk2⟩
      have B2 := hide (B1.out.kept hk2)
      clear t0 t1 t2 t3 t4 r0 r1 r2 r3 z0 z1 z2 z3 z4 f0 f1 f2 f3 f4 hk2 hz
      obtain ⟨z0, z1, z2, z3, z4, f0, f1, f2, f3, f4⟩ := B2.out.z
      have hz := B2.out.z.lt
      go_wp2_with fail
      exact bodyPost_ret (v := .tuple #[.agg #[.int .i64 0, .int .i64 0, .int .i64 0, .int .i64 0, .slice none 0 0], .int .i64 241]) (by simp [results, Tryz.results41, go_sem, z0, z1, z2, z3, z4]) rfl ⟨by simp, B2.out.z.stored B2.out.k (by omega) _ _ _ _ _⟩
    | true =>
      rw [hF] at CF
      obtain rfl : E = 0 := by rw [hEf, hF]; rfl
      obtain ⟨i0, hi, hi0, hi1, hi2⟩ := info_parts info_witC
      simp only [fitB, decide_eq_true_eq] at hF
      obtain ⟨f1, f2, f3, f4, f5, f6⟩ := hF
      obtain ⟨an, han⟩ := Int.eq_ofNat_of_zero_le (show 0 ≤ T.a by omega)
      obtain ⟨dn, hdn⟩ := Int.eq_ofNat_of_zero_le (show 0 ≤ T.d by omega)
      obtain ⟨cx, hcx⟩ := Int.eq_ofNat_of_zero_le (show 0 ≤ rx - T.x by omega)
      obtain ⟨cy, hcy⟩ := Int.eq_ofNat_of_zero_le (show 0 ≤ ry - T.y by omega)
      obtain ⟨s, rfl⟩ := Int.eq_ofNat_of_zero_le (show 0 ≤ ra by omega)
      obtain ⟨t, rfl⟩ := Int.eq_ofNat_of_zero_le (show 0 ≤ rd by omega)
      have hl := h.len
      have hn : n = an * dn := by
        have : (n : Int) = ((an * dn : Nat) : Int) := by rw [v5, han, hdn, Int.natCast_mul]
        omega
      have hcs : cx + s ≤ an := by omega
      have hct : cy + t ≤ dn := by omega
      have HP : Hid (cutP T rx ry s t = cutC T.c an (cy * an + cx) s t) := by
        show cutP T rx ry s t = _
        unfold cutP
        rw [hcx, hcy, han]
        congr 1
      have HLEN : Hid (∀ k, k < t → cy * an + cx + k * an + s ≤ T.c.length) := fun k hk => by
        have h5 : (cy + k + 1) * an ≤ dn * an := Nat.mul_le_mul_right _ (by omega)
        have h6 : (cy + k + 1) * an = cy * an + k * an + an := by rw [Nat.add_mul, Nat.add_mul, Nat.one_mul]
        rw [hl, hn, Nat.mul_comm an dn]
        omega
      have HROW : Hid (∀ W F, Kept w W → Row W (A.map (·.add (F * 3))) (witV ((T.c.drop F).take s))) := fun W F hW => by
        have := ((h.row.kept hW).drop (F * 3)).take (s * 3)
        rwa [witV_drop, witV_take] at this
      have HN := hide hn
      have HL := hide hl
      have HA := hide han
      have HD := hide hdn
      have HX := hide hcx
      have HY := hide hcy
      have HV := hide (And.intro v2 (And.intro v4 (And.intro v6 v7)))
      have HXY := hide (And.intro hx0 (And.intro hy0 (And.intro h.x1 h.y1)))
      have HR4 := hide (And.intro hrx (And.intro hry (And.intro hra hrd)))
      have HS1 := hide hcs
      have HT1 := hide hct
      have HF1 := hide (And.intro f1 f2)
      have hcap := h.cap
      clear hEf h hB hn hl hrx hry hra hrd f1 f2 f3 f4 f5 f6 han hdn hcx hcy v1 v2 v3 v4 v5 v6 v7 hx0 hy0 hcs hct
      go_enter Tryz.func41, Tryz.ntmps41
      go_upto_region 1 with fail
      rw [← hW0]
      clear hW0
      obtain ⟨⟨t0, t1, t2, t3, t4⟩, ⟨r0, r1, r2, r3⟩, -, -⟩ := B0.out
      go_wp2_with (go_at_call 64; refine (CR.out _).mono ?_; rintro e w1 ⟨rfl, hk1⟩; have B1 := hide (B0.out.kept hk1); clear t0 t1 t2 t3 t4 r0 r1 r2 r3 hk1; obtain ⟨⟨t0, t1, t2, t3, t4⟩, ⟨r0, r1, r2, r3⟩, -, -⟩ := B1.out; have hz := B1.out.z.lt)
      refine (CF.out _).mono ?_
      rintro e w2 ⟨rfl, hk2⟩
      have B2 := hide (B1.out.kept hk2)
      clear t0 t1 t2 t3 t4 r0 r1 r2 r3 hk2 hz
      obtain ⟨⟨t0, t1, t2, t3, t4⟩, ⟨r0, r1, r2, r3⟩, -, -⟩ := B2.out
      have hz := B2.out.z.lt
      have hz1 : w.heap.size + 1 < w2.heap.size := by omega
      have hz0 : w.heap.size < w2.heap.size := by omega
      go_wp2_with fail
      go_loopg [33] t (fun gh ix wr => CutRel w2 T.c an (cy * an + cx) s t rx ry s t gh ix wr)
      case atStart => exact ⟨0, 0, none, 0, by omega, rfl, LBox.new _ _ _ _ _ _ _ _ _ _ rfl, fresh_frozen _ _ _ _, Own.nil _ _ _, by simp, (Below.refl _ _).alloc (Nat.le_refl _) _⟩
      case round =>
        obtain ⟨k, m, A2, c2, hkg, rfl, hbx, of2, hown, hwz, hbw⟩ := hrel
        clear t0 t1 t2 t3 t4 r0 r1 r2 r3
        have hB4 := B2.out.below hbw hz
        have HB4 := hide hB4
        obtain ⟨⟨t0, t1, t2, t3, t4⟩, ⟨r0, r1, r2, r3⟩, ⟨z0, z1, z2, z3, z4, e0, e1, e2, e3, e4⟩, -⟩ := hB4
        cases gk with
        | zero =>
          have hge : ¬ ((k : Int) < t) := by omega
          have HKT := hide (show k = t by omega)
          obtain ⟨o0, o1, o2, o3, o4⟩ := hbx
          have HO := hide hown
          have hz4 := HB4.out.z.lt
          clear hown hbw hkg
          go_wp2
          refine bodyPost_ret (v := .tuple #[.agg #[.int .i64 rx, .int .i64 ry, .int .i64 s, .int .i64 t, .slice A2 m c2], .int .i64 0]) (by simp [results, Tryz.results41, go_sem, z0, z1, z2, z3, z4]) rfl ?_
          rw [HP.out]
          exact cut_ok HO.out HKT.out HB4.out hz
        | succ gh =>
          have hlt : (k : Int) < t := by omega
          obtain ⟨r, hr⟩ : ∃ r : Nat, r = cy + k := ⟨_, rfl⟩
          obtain ⟨G, hG⟩ : ∃ G : Nat, G = r * an := ⟨_, rfl⟩
          obtain ⟨F, hFd⟩ : ∃ F : Nat, F = G + cx := ⟨_, rfl⟩
          have hFe : F = cy * an + cx + k * an := by rw [hFd, hG, hr, Nat.add_mul]; omega
          have hFl := HLEN.out k (by omega)
          rw [← hFe, HL.out] at hFl
          have hnm := HV.out.2.2.2
          have hxy := HXY.out
          have hr4 := HR4.out
          have hxe := HX.out
          have hye := HY.out
          have hae := HA.out
          have hs1 := HF1.out.1
          have hpos := HF1.out
          have hde := HD.out
          have ht1 := HT1.out
          have hv := HV.out
          simp only [in64] at hr4
          have y1 : IntKind.i64.wrap (ry - T.y) = (cy : Int) := by rw [hye]; exact IntWalk.i64_in _ (by omega)
          have y2 : IntKind.i64.wrap ((cy : Int) + k) = (r : Int) := by rw [hr, Int.natCast_add]; exact IntWalk.i64_in _ (by omega)
          have y3 : IntKind.i64.wrap ((r : Int) * T.a) = (G : Int) := by rw [hae, ← Int.natCast_mul, ← hG]; exact IntWalk.i64_in _ (by omega)
          have y4 : IntKind.i64.wrap (IntKind.i64.wrap ((G : Int) + rx) - T.x) = (F : Int) := by rw [wrap_cancel (by omega) (by omega)]; omega
          have y5 : IntKind.i64.wrap ((F : Int) + s) = (F : Int) + s := IntWalk.i64_in _ (by omega)
          have q2 : (0 : Int) ≤ (F : Int) + s := by omega
          have q3 : ((F : Int) + s).toNat = F + s := by omega
          have q4 : (F : Int) ≤ (F : Int) + s := by omega
          have q5 : (F : Int) + s ≤ (c : Int) := by omega
          have q6 : ¬ c = F := by omega
          have hm2 : m = k * s := by
            have h9 := hown.1
            rw [witV_length, cutC_length _ _ _ _ _ fun j hj => HLEN.out j (by omega)] at h9
            omega
          have HFE := hide hFe
          have hmb : m + s ≤ 4194304 := by
            have h5 : (k + 1) * s ≤ dn * an := Nat.mul_le_mul (by have := HT1.out; omega) (by have := HS1.out; omega)
            rw [Nat.add_mul, Nat.mul_comm dn an, ← HN.out] at h5
            omega
          have o4 := hbx.t4
          have HBX := hide hbx
          have HBW := hide hbw
          have HLP : Hid (((T.c.drop F).take s).length = s) := by show _ = _; simp; have := HL.out; omega
          have hS : wr.cell? ⟨w.heap.size, 4, none⟩ = some (.slice A n c) ∧ wr.cell? ⟨w.heap.size + 1, 2, none⟩ = some (.int .i64 s) ∧ wr.cell? ⟨w2.heap.size, 4, none⟩ = some (.slice A2 m c2) := ⟨t4, r2, o4⟩
          have HS := hide hS
          have SK : Hid (∀ W, Below (w2.heap.size + 1) wr W → W.cell? ⟨w.heap.size, 4, none⟩ = some (.slice A n c) ∧ W.cell? ⟨w.heap.size + 1, 2, none⟩ = some (.int .i64 s) ∧ W.cell? ⟨w2.heap.size, 4, none⟩ = some (.slice A2 m c2)) := by
            intro W hW
            exact ⟨(hW.cell (p := ⟨w.heap.size, 4, none⟩) (by simp; omega)).trans t4, (hW.cell (p := ⟨w.heap.size + 1, 2, none⟩) (by simp; omega)).trans r2, (hW.cell (p := ⟨w2.heap.size, 4, none⟩) (by simp)).trans o4⟩
          have Q9 : Hid (∀ W, Kept wr W → Row W (A.map (·.add (F * 3))) (witV ((T.c.drop F).take s))) := fun W hW => HROW.out W F (HB4.out.k.trans (hW.mono (by omega)))
          have hb1 : ¬ w.heap.size = w2.heap.size := by omega
          have hb2 : ¬ w.heap.size + 1 = w2.heap.size := by omega
          have HYK : Hid (wrap64 ((k : Int) + 1) = (k : Int) + 1) := IntWalk.wrap64_in _ (by omega)
          have y4' : wrap64 (wrap64 ((G : Int) + rx) - T.x) = (F : Int) := by rw [← IntWalk.i64_left, ← IntWalk.i64_left]; exact y4
          clear hr hG hFd hFe hFl hxy hr4 hxe hye hae hpos hde ht1 hv hm2 hbx hbw hS t3 t4 r2 r3 z0 z1 z2 z3 z4 e0 e1 e2 e3 e4 o4
          go_wp2_with fail
          refine wp_region_L (fun X => X.cell? ⟨w.heap.size, 4, none⟩ = some (.slice A n c) ∧ X.cell? ⟨w.heap.size + 1, 2, none⟩ = some (.int .i64 s) ∧ X.cell? ⟨w2.heap.size, 4, none⟩ = some (.slice A2 m c2)) 12 (by kernel_rfl) ?_ (fun hHeld => ?_)
          · first | exact HS.out | assumption
          refine wpAnyL_take (i := 0) (v := ?_) (some 55) rfl rfl (by kernel_rfl) (by kernel_rfl) (by kernel_rfl) (by kernel_rfl) (fun _ _ _ h => h) (Or.inl ⟨by rfl, ?_⟩) (by assumption) ?_
          rotate_left
          · intro w hSw; (try dsimp only at hSw); go_simp; (try with_reducible rfl)
          try simp only [Act.put, List.setIfInBounds_toArray, List.set_cons_zero, List.set_cons_succ]
          refine wpAnyL_take (i := 1) (v := ?_) (some 56) rfl rfl (by kernel_rfl) (by kernel_rfl) (by kernel_rfl) (by kernel_rfl) (fun _ _ _ h => h) (Or.inl ⟨by rfl, ?_⟩) (by assumption) ?_
          rotate_left
          · intro w hSw; (try dsimp only at hSw); go_simp; (try with_reducible rfl)
          try simp only [Act.put, List.setIfInBounds_toArray, List.set_cons_zero, List.set_cons_succ]
          refine wpAnyL_take (i := 2) (v := ?_) (some 57) rfl rfl (by kernel_rfl) (by kernel_rfl) (by kernel_rfl) (by kernel_rfl) (fun _ _ _ h => h) (Or.inl ⟨by rfl, ?_⟩) (by assumption) ?_
          rotate_left
          · intro w hSw; (try dsimp only at hSw); go_simp; (try with_reducible rfl)
          try simp only [Act.put, List.setIfInBounds_toArray, List.set_cons_zero, List.set_cons_succ]
          refine wpAnyL_take (i := 3) (v := ?_) (some 58) rfl rfl (by kernel_rfl) (by kernel_rfl) (by kernel_rfl) (by kernel_rfl) (fun _ _ _ h => h) (Or.inl ⟨by rfl, ?_⟩) (by assumption) ?_
          rotate_left
          · intro w hSw; (try dsimp only at hSw); go_simp; (try with_reducible rfl)
          try simp only [Act.put, List.setIfInBounds_toArray, List.set_cons_zero, List.set_cons_succ]
          refine wpAnyL_take (i := 4) (v := ?_) (some 59) rfl rfl (by kernel_rfl) (by kernel_rfl) (by kernel_rfl) (by kernel_rfl) (fun _ _ _ h => h) (Or.inl ⟨by rfl, ?_⟩) (by assumption) ?_
          rotate_left
          · intro w hSw; (try dsimp only at hSw); go_simp; (try with_reducible rfl)
          try simp only [Act.put, List.setIfInBounds_toArray, List.set_cons_zero, List.set_cons_succ]
          refine wpAnyL_take (i := 5) (v := ?_) (some 60) rfl rfl (by kernel_rfl) (by kernel_rfl) (by kernel_rfl) (by kernel_rfl) (fun _ _ _ h => h) (Or.inl ⟨by rfl, ?_⟩) (by assumption) ?_
          rotate_left
          · intro w hSw; (try dsimp only at hSw); go_simp; (try with_reducible rfl)
          try simp only [Act.put, List.setIfInBounds_toArray, List.set_cons_zero, List.set_cons_succ]
          refine wpAnyL_take (i := 6) (v := ?_) (some 61) rfl rfl (by kernel_rfl) (by kernel_rfl) (by kernel_rfl) (by kernel_rfl) (fun _ _ _ h => h) (Or.inl ⟨by rfl, ?_⟩) (by assumption) ?_
          rotate_left
          · intro w hSw; (try dsimp only at hSw); go_simp; (try with_reducible rfl)
          try simp only [Act.put, List.setIfInBounds_toArray, List.set_cons_zero, List.set_cons_succ]
          refine wpAnyL_take (i := 7) (v := ?_) (some 62) rfl rfl (by kernel_rfl) (by kernel_rfl) (by kernel_rfl) (by kernel_rfl) (fun _ _ _ h => h) (Or.inl ⟨by rfl, ?_⟩) (by assumption) ?_
          rotate_left
          · intro w hSw; (try dsimp only at hSw); go_simp; (try with_reducible rfl)
          try simp only [Act.put, List.setIfInBounds_toArray, List.set_cons_zero, List.set_cons_succ]
          refine wpAnyL_take (i := 8) (v := ?_) (some 63) rfl rfl (by kernel_rfl) (by kernel_rfl) (by kernel_rfl) (by kernel_rfl) (fun _ _ _ h => h) (Or.inl ⟨by rfl, ?_⟩) (by assumption) ?_
          rotate_left
          · intro w hSw; (try dsimp only at hSw); go_simp; (try with_reducible rfl)
          try simp only [Act.put, List.setIfInBounds_toArray, List.set_cons_zero, List.set_cons_succ]
          refine wpAnyL_one (i := 9) (by kernel_rfl) rfl (fun K hK => ?_)
          go_simp
          refine hK.out _ _ ?_ (fun hHeld => ?_)
          · first | exact HS.out | assumption
          clear hK K
          try simp only [Act.put, List.setIfInBounds_toArray, List.set_cons_zero, List.set_cons_succ]
          refine wpAnyL_one (i := 10) (by kernel_rfl) rfl (fun K hK => ?_)
          (refine step_append_row _ rfl _ _ 54 rfl (w2.heap.size + 1) 69 i0 (.agg #[.int .u8 0, .int .i64 0, .int .i64 0]) 3 24 Tryz.underlying54 hi hi0 hi1 hi2 rfl (by decide) (.slice A2 m c2) m _ rfl (hown.kept (Below.refl _ wr).drew) (A.map (·.add (F * 3))) s (c - F) (witV ((T.c.drop F).take s)) rfl (by rw [witV_length, HLP.out]) (Q9.out wr.drew (Below.refl _ wr).drew) (witV_one _) (by unfold maxLen; omega) (by omega) (by simp; omega) ?_; intro v5 w5 hown5 hg5 hat5; have hb5 : Below (w2.heap.size + 1) wr w5 := below_append (Below.refl _ wr).drew (hown.kept (Below.refl _ wr).drew) (Nat.le_refl _) (by simp; omega) hg5; obtain ⟨A5, c5, rfl, -, -, -, -, -⟩ := hown5.form; have hS5 := SK.out w5 hb5; have ef := (hb5.frozen (p := ⟨w2.heap.size, 4, none⟩) (by simp)).trans of2)
          refine hK.out _ _ ?_ (fun hHeld => ?_)
          · first | exact HS.out | assumption
          clear hK K
          try simp only [Act.put, List.setIfInBounds_toArray]
          refine wpAnyL_one (i := 11) (by kernel_rfl) rfl (fun K hK => ?_)
          go_simp
          refine hK.out _ _ ?_ (fun hHeld => ?_)
          · first | exact HS.out | assumption
          clear hK K
          try simp only [Act.put, List.setIfInBounds_toArray, List.set_cons_zero, List.set_cons_succ]
          refine wpAnyL_end (by kernel_rfl) rfl (fun K hK => ?_)
          go_simp
          refine hK.out _ _ ?_
          clear hK K
          try simp only [Act.put, List.setIfInBounds_toArray, List.set_cons_zero, List.set_cons_succ]
          refine wpAnyL_done (by kernel_rfl) ?_ _
          have HO5 := hide hown5
          have HB5 := hide hb5
          have ef5 := hide ef
          clear hown5 hg5 hat5 hb5 ef hS5
          go_wp2
          go_roundg gh
          case measure => omega
          case rel => rw [HYK.out]; exact rel_cut HBX.out HBW.out HB5.out (by rw [← HFE.out]; exact HO5.out) ef5.out hkg hwz
end Go.Proofs.YtneakieigiafpaaGreatDoor

/- filigreeref25.Cut, walked. -/
namespace Go.Proofs.YtneakieigiafpaaGreatDoor
open Go.RowKit

theorem fitB_sub (x y a d rx ry ra rd : Int) : fitB x y a d rx ry ra rd = (decide (x ≤ rx) && (decide (y ≤ ry) && fitB 0 0 a d (rx - x) (ry - y) ra rd)) := by
  simp only [fitB]
  rw [← Bool.decide_and, ← Bool.decide_and, decide_eq_decide]
  omega

set_option maxRecDepth 100000 in
set_option maxHeartbeats 3200000 in
theorem rcut_any (T : TilD) (A : Option Addr) (n c : Nat) (rx ry ra rd : Int) (w : World) (h : TilAt w T A n c) (hrx : in64 rx) (hry : in64 ry) (hra : in64 ra) (hrd : in64 rd) :
    Calls Tryz.prog 42 #[.agg #[.int .i64 T.x, .int .i64 T.y, .int .i64 T.a, .int .i64 T.d, .slice A n c], .agg #[.int .i64 rx, .int .i64 ry, .int .i64 ra, .int .i64 rd]] w (CutPost w (cutE T n rx ry ra rd) rx ry ra rd (cutP T rx ry ra rd)) := by
  have CR := hide (fun (W : World) => refTMay_any T.x T.y T.a T.d A n c W ⟨h.a0, h.a1⟩ ⟨h.d0, h.d1⟩)
  obtain ⟨W0, hW0⟩ : ∃ W0, W0 = ((w.alloc (.cells #[.int .i64 T.x, .int .i64 T.y, .int .i64 T.a, .int .i64 T.d, .slice A n c] 56)).alloc (.cells #[.int .i64 rx, .int .i64 ry, .int .i64 ra, .int .i64 rd] 38)).alloc (.cells #[.int .i64 0, .int .i64 0, .int .i64 0, .int .i64 0, .slice none 0 0] 56) := ⟨_, rfl⟩
  have B0 := hide (show CB w W0 T A n c rx ry ra rd by rw [hW0]; exact CB.new w T A n c rx ry ra rd)
  obtain ⟨E, hE⟩ : ∃ E, E = cutE T n rx ry ra rd := ⟨_, rfl⟩
  rw [← hE]
  have HT := hide h
  cases hB : tileB T.x T.y T.a T.d n with
  | false =>
    rw [hB] at CR
    obtain rfl : E = 250 := by rw [hE]; simp [cutE, hB]
    clear hE h hB
    go_enter Tryz.func42, Tryz.ntmps42
    go_upto_region 1 with fail
    rw [← hW0]
    clear hW0
    obtain ⟨⟨t0, t1, t2, t3, t4⟩, ⟨r0, r1, r2, r3⟩, ⟨z0, z1, z2, z3, z4, f0, f1, f2, f3, f4⟩, -⟩ := B0.out
    go_wp2_with (go_at_call 83; refine (CR.out _).mono ?_; rintro e w1 ⟨rfl, hk1⟩; have B1 := hide (B0.out.kept hk1); clear t0 t1 t2 t3 t4 r0 r1 r2 r3 z0 z1 z2 z3 z4 f0 f1 f2 f3 f4 hk1; obtain ⟨z0, z1, z2, z3, z4, f0, f1, f2, f3, f4⟩ := B1.out.z; have hz := B1.out.z.lt)
    exact bodyPost_ret (v := .tuple #[.agg #[.int .i64 0, .int .i64 0, .int .i64 0, .int .i64 0, .slice none 0 0], .int .i64 250]) (by simp [results, Tryz.results42, go_sem, z0, z1, z2, z3, z4]) rfl ⟨by simp, B1.out.z.stored B1.out.k (by omega) _ _ _ _ _⟩
  | true =>
    rw [hB] at CR
    obtain ⟨v1, v2, v3, v4, v5, v6, v7⟩ := mayB_bounds (tileB_may hB)
    have hxy : 0 ≤ T.x ∧ 0 ≤ T.y := by simp [tileB] at hB; omega
    obtain ⟨hx0, hy0⟩ := hxy
    have hEf : E = if fitB T.x T.y T.a T.d rx ry ra rd then 0 else 241 := by rw [hE]; simp [cutE, hB]
    obtain ⟨X1, hX1⟩ : ∃ X1, IntKind.i64.wrap (rx - T.x) = X1 := ⟨_, rfl⟩
    obtain ⟨Y1, hY1⟩ : ∃ Y1, IntKind.i64.wrap (ry - T.y) = Y1 := ⟨_, rfl⟩
    have hXe : Hid (T.x ≤ rx → X1 = rx - T.x) := fun h9 => by rw [← hX1]; have := h.x1; exact IntWalk.i64_in _ (by simp only [in64] at hrx; omega)
    have hYe : Hid (T.y ≤ ry → Y1 = ry - T.y) := fun h9 => by rw [← hY1]; have := h.y1; exact IntWalk.i64_in _ (by simp only [in64] at hry; omega)
    have CF : Hid (T.x ≤ rx → T.y ≤ ry → ∀ W, Calls Tryz.prog 84 #[.agg #[.int .i64 X1, .int .i64 Y1, .int .i64 ra, .int .i64 rd], .int .i64 T.a, .int .i64 T.d] W fun e w' => e = .returned (.bool (fitB T.x T.y T.a T.d rx ry ra rd)) ∧ Kept W w') := fun h8 h9 W => by
      have := h.x1
      have := h.y1
      rw [fitB_sub, decide_eq_true h8, decide_eq_true h9, Bool.true_and, Bool.true_and, ← hXe.out h8, ← hYe.out h9]
      exact refFits_any T.a T.d X1 Y1 ra rd W v1 v2 v3 v4 (by rw [hXe.out h8]; simp only [in64] at hrx ⊢; omega) (by rw [hYe.out h9]; simp only [in64] at hry ⊢; omega) hra hrd
    clear hE
    by_cases hlx : rx < T.x
    · obtain rfl : E = 241 := by rw [hEf, fitB_sub, decide_eq_false (by omega)]; rfl
      clear hEf h hB v1 v2 v3 v4 v5 v6 v7 hx0 hy0 hrx hry hra hrd
      go_enter Tryz.func42, Tryz.ntmps42
      go_upto_region 1 with fail
      rw [← hW0]
      clear hW0
      obtain ⟨⟨t0, t1, t2, t3, t4⟩, ⟨r0, r1, r2, r3⟩, -, -⟩ := B0.out
      go_upto_region 4 with (go_at_call 83; refine (CR.out _).mono ?_; rintro e w1 ⟨rfl, hk1⟩; have B1 := hide (B0.out.kept hk1); clear t0 t1 t2 t3 t4 r0 r1 r2 r3 hk1; obtain ⟨⟨t0, t1, t2, t3, t4⟩, ⟨r0, r1, r2, r3⟩, -, -⟩ := B1.out; have hz := B1.out.z.lt; have hz1 : w.heap.size + 1 < w1.heap.size := (by omega); have hz0 : w.heap.size < w1.heap.size := (by omega))
      obtain ⟨W4, hW4⟩ : ∃ W4, W4 = w1.alloc (.cells #[.int .i64 X1, .int .i64 Y1, .int .i64 ra, .int .i64 rd] 38) := ⟨_, rfl⟩
      rw [← hW4]
      have B4 := hide (show CB w W4 T A n c rx ry ra rd by rw [hW4]; exact B1.out.kept ((Below.refl _ _).alloc (Nat.le_refl _) _))
      have R4 := hide (show RcB W4 w1.heap.size X1 Y1 ra rd by rw [hW4]; exact RcB.new _ _ _ _ _ _ _ rfl)
      clear hW4 t0 t1 t2 t3 t4 r0 r1 r2 r3
      obtain ⟨⟨t0, t1, t2, t3, t4⟩, ⟨r0, r1, r2, r3⟩, ⟨z0, z1, z2, z3, z4, f0, f1, f2, f3, f4⟩, -⟩ := B4.out
      obtain ⟨p0, p1, p2, p3⟩ := R4.out
      go_wp2_with fail
      exact bodyPost_ret (v := .tuple #[.agg #[.int .i64 0, .int .i64 0, .int .i64 0, .int .i64 0, .slice none 0 0], .int .i64 241]) (by simp [results, Tryz.results42, go_sem, z0, z1, z2, z3, z4]) rfl ⟨by simp, B4.out.z.stored B4.out.k (by omega) _ _ _ _ _⟩
    · by_cases hly : ry < T.y
      · obtain rfl : E = 241 := by rw [hEf, fitB_sub, decide_eq_false (by omega : ¬ T.y ≤ ry), Bool.false_and, Bool.and_false]; rfl
        clear hEf h hB v1 v2 v3 v4 v5 v6 v7 hx0 hy0 hrx hry hra hrd
        go_enter Tryz.func42, Tryz.ntmps42
        go_upto_region 1 with fail
        rw [← hW0]
        clear hW0
        obtain ⟨⟨t0, t1, t2, t3, t4⟩, ⟨r0, r1, r2, r3⟩, -, -⟩ := B0.out
        go_upto_region 4 with (go_at_call 83; refine (CR.out _).mono ?_; rintro e w1 ⟨rfl, hk1⟩; have B1 := hide (B0.out.kept hk1); clear t0 t1 t2 t3 t4 r0 r1 r2 r3 hk1; obtain ⟨⟨t0, t1, t2, t3, t4⟩, ⟨r0, r1, r2, r3⟩, -, -⟩ := B1.out; have hz := B1.out.z.lt; have hz1 : w.heap.size + 1 < w1.heap.size := (by omega); have hz0 : w.heap.size < w1.heap.size := (by omega))
        obtain ⟨W4, hW4⟩ : ∃ W4, W4 = w1.alloc (.cells #[.int .i64 X1, .int .i64 Y1, .int .i64 ra, .int .i64 rd] 38) := ⟨_, rfl⟩
        rw [← hW4]
        have B4 := hide (show CB w W4 T A n c rx ry ra rd by rw [hW4]; exact B1.out.kept ((Below.refl _ _).alloc (Nat.le_refl _) _))
        have R4 := hide (show RcB W4 w1.heap.size X1 Y1 ra rd by rw [hW4]; exact RcB.new _ _ _ _ _ _ _ rfl)
        clear hW4 t0 t1 t2 t3 t4 r0 r1 r2 r3
        obtain ⟨⟨t0, t1, t2, t3, t4⟩, ⟨r0, r1, r2, r3⟩, ⟨z0, z1, z2, z3, z4, f0, f1, f2, f3, f4⟩, -⟩ := B4.out
        obtain ⟨p0, p1, p2, p3⟩ := R4.out
        go_wp2_with fail
        exact bodyPost_ret (v := .tuple #[.agg #[.int .i64 0, .int .i64 0, .int .i64 0, .int .i64 0, .slice none 0 0], .int .i64 241]) (by simp [results, Tryz.results42, go_sem, z0, z1, z2, z3, z4]) rfl ⟨by simp, B4.out.z.stored B4.out.k (by omega) _ _ _ _ _⟩
      · have CF2 := hide (CF.out (by omega) (by omega))
        clear CF
        cases hF : fitB T.x T.y T.a T.d rx ry ra rd with
        | false =>
          rw [hF] at CF2
          obtain rfl : E = 241 := by rw [hEf, hF]; rfl
          clear hEf h hB v1 v2 v3 v4 v5 v6 v7 hx0 hy0 hF hrx hry hra hrd
          go_enter Tryz.func42, Tryz.ntmps42
          go_upto_region 1 with fail
          rw [← hW0]
          clear hW0
          obtain ⟨⟨t0, t1, t2, t3, t4⟩, ⟨r0, r1, r2, r3⟩, -, -⟩ := B0.out
          go_upto_region 4 with (go_at_call 83; refine (CR.out _).mono ?_; rintro e w1 ⟨rfl, hk1⟩; have B1 := hide (B0.out.kept hk1); clear t0 t1 t2 t3 t4 r0 r1 r2 r3 hk1; obtain ⟨⟨t0, t1, t2, t3, t4⟩, ⟨r0, r1, r2, r3⟩, -, -⟩ := B1.out; have hz := B1.out.z.lt; have hz1 : w.heap.size + 1 < w1.heap.size := (by omega); have hz0 : w.heap.size < w1.heap.size := (by omega))
          obtain ⟨W4, hW4⟩ : ∃ W4, W4 = w1.alloc (.cells #[.int .i64 X1, .int .i64 Y1, .int .i64 ra, .int .i64 rd] 38) := ⟨_, rfl⟩
          rw [← hW4]
          have B4 := hide (show CB w W4 T A n c rx ry ra rd by rw [hW4]; exact B1.out.kept ((Below.refl _ _).alloc (Nat.le_refl _) _))
          have R4 := hide (show RcB W4 w1.heap.size X1 Y1 ra rd by rw [hW4]; exact RcB.new _ _ _ _ _ _ _ rfl)
          clear hW4 t0 t1 t2 t3 t4 r0 r1 r2 r3
          obtain ⟨⟨t0, t1, t2, t3, t4⟩, ⟨r0, r1, r2, r3⟩, ⟨z0, z1, z2, z3, z4, f0, f1, f2, f3, f4⟩, -⟩ := B4.out
          obtain ⟨p0, p1, p2, p3⟩ := R4.out
          go_wp2_with fail
          refine (CF2.out _).mono ?_
          rintro e w5 ⟨rfl, hk5⟩
          have B5 := hide (B4.out.kept hk5)
          have hz5 := B5.out.z.lt
          clear t0 t1 t2 t3 t4 r0 r1 r2 r3 p0 p1 p2 p3 z0 z1 z2 z3 z4 f0 f1 f2 f3 f4 hk5
          obtain ⟨z0, z1, z2, z3, z4, f0, f1, f2, f3, f4⟩ := B5.out.z
          go_wp2_with fail
          exact bodyPost_ret (v := .tuple #[.agg #[.int .i64 0, .int .i64 0, .int .i64 0, .int .i64 0, .slice none 0 0], .int .i64 241]) (by simp [results, Tryz.results42, go_sem, z0, z1, z2, z3, z4]) rfl ⟨by simp, B5.out.z.stored B5.out.k (by omega) _ _ _ _ _⟩
        | true =>
          rw [hF] at CF2
          obtain rfl : E = 0 := by rw [hEf, hF]; rfl
          obtain ⟨i0, hi, hi0, hi1, hi2⟩ := info_parts info_witC
          simp only [fitB, decide_eq_true_eq] at hF
          obtain ⟨f1, f2, f3, f4, f5, f6⟩ := hF
          obtain ⟨an, han⟩ := Int.eq_ofNat_of_zero_le (show 0 ≤ T.a by omega)
          obtain ⟨dn, hdn⟩ := Int.eq_ofNat_of_zero_le (show 0 ≤ T.d by omega)
          obtain ⟨cx, hcx⟩ := Int.eq_ofNat_of_zero_le (show 0 ≤ rx - T.x by omega)
          obtain ⟨cy, hcy⟩ := Int.eq_ofNat_of_zero_le (show 0 ≤ ry - T.y by omega)
          have hxc := hXe.out (by omega)
          have hyc := hYe.out (by omega)
          rw [hcx] at hxc
          rw [hcy] at hyc
          subst hxc hyc
          obtain ⟨s, rfl⟩ := Int.eq_ofNat_of_zero_le (show 0 ≤ ra by omega)
          obtain ⟨t, rfl⟩ := Int.eq_ofNat_of_zero_le (show 0 ≤ rd by omega)
          have hl := h.len
          have hn : n = an * dn := by
            have : (n : Int) = ((an * dn : Nat) : Int) := by rw [v5, han, hdn, Int.natCast_mul]
            omega
          have hcs : cx + s ≤ an := by omega
          have hct : cy + t ≤ dn := by omega
          have HP : Hid (cutP T rx ry s t = cutC T.c an (cy * an + cx) s t) := by
            show cutP T rx ry s t = _
            unfold cutP
            rw [hcx, hcy, han]
            congr 1
          have HLEN : Hid (∀ k, k < t → cy * an + cx + k * an + s ≤ T.c.length) := fun k hk => by
            have h5 : (cy + k + 1) * an ≤ dn * an := Nat.mul_le_mul_right _ (by omega)
            have h6 : (cy + k + 1) * an = cy * an + k * an + an := by rw [Nat.add_mul, Nat.add_mul, Nat.one_mul]
            rw [hl, hn, Nat.mul_comm an dn]
            omega
          have HROW : Hid (∀ W F, Kept w W → Row W (A.map (·.add (F * 3))) (witV ((T.c.drop F).take s))) := fun W F hW => by
            have := ((h.row.kept hW).drop (F * 3)).take (s * 3)
            rwa [witV_drop, witV_take] at this
          have HN := hide hn
          have HL := hide hl
          have HA := hide han
          have HD := hide hdn
          have HX := hide hcx
          have HY := hide hcy
          have HV := hide (And.intro v2 (And.intro v4 (And.intro v6 v7)))
          have HXY := hide (And.intro hx0 (And.intro hy0 (And.intro h.x1 h.y1)))
          clear hXe hYe
          have HR4 := hide (And.intro hrx (And.intro hry (And.intro hra hrd)))
          have HS1 := hide hcs
          have HT1 := hide hct
          have HF1 := hide (And.intro f1 f2)
          have hcap := h.cap
          clear hEf h hB hn hl hrx hry hra hrd f1 f2 f3 f4 f5 f6 han hdn hcx hcy v1 v2 v3 v4 v5 v6 v7 hx0 hy0 hcs hct
          go_enter Tryz.func42, Tryz.ntmps42
          go_upto_region 1 with fail
          rw [← hW0]
          clear hW0
          obtain ⟨⟨t0, t1, t2, t3, t4⟩, ⟨r0, r1, r2, r3⟩, -, -⟩ := B0.out
          go_upto_region 4 with (go_at_call 83; refine (CR.out _).mono ?_; rintro e w1 ⟨rfl, hk1⟩; have B1 := hide (B0.out.kept hk1); clear t0 t1 t2 t3 t4 r0 r1 r2 r3 hk1; obtain ⟨⟨t0, t1, t2, t3, t4⟩, ⟨r0, r1, r2, r3⟩, -, -⟩ := B1.out; have hz := B1.out.z.lt; have hz1 : w.heap.size + 1 < w1.heap.size := (by omega); have hz0 : w.heap.size < w1.heap.size := (by omega))
          obtain ⟨W4, hW4⟩ : ∃ W4, W4 = w1.alloc (.cells #[.int .i64 cx, .int .i64 cy, .int .i64 s, .int .i64 t] 38) := ⟨_, rfl⟩
          rw [← hW4]
          have B4 := hide (show CB w W4 T A n c rx ry s t by rw [hW4]; exact B1.out.kept ((Below.refl _ _).alloc (Nat.le_refl _) _))
          have R4 := hide (show RcB W4 w1.heap.size cx cy s t by rw [hW4]; exact RcB.new _ _ _ _ _ _ _ rfl)
          clear hW4 t0 t1 t2 t3 t4 r0 r1 r2 r3
          obtain ⟨⟨t0, t1, t2, t3, t4⟩, ⟨r0, r1, r2, r3⟩, ⟨z0, z1, z2, z3, z4, f0, f1, f2, f3, f4⟩, -⟩ := B4.out
          obtain ⟨p0, p1, p2, p3⟩ := R4.out
          go_wp2_with fail
          refine (CF2.out _).mono ?_
          rintro e w2 ⟨rfl, hk2⟩
          have B2 := hide (B4.out.kept hk2)
          have R2 := hide (R4.out.below hk2 R4.out.lt)
          have hz2 : w1.heap.size < w2.heap.size := R2.out.lt
          clear t0 t1 t2 t3 t4 r0 r1 r2 r3 p0 p1 p2 p3 z0 z1 z2 z3 z4 f0 f1 f2 f3 f4 hk2 hz1 hz0
          obtain ⟨⟨t0, t1, t2, t3, t4⟩, ⟨r0, r1, r2, r3⟩, -, -⟩ := B2.out
          have hzz := B2.out.z.lt
          have hz1 : w.heap.size + 1 < w2.heap.size := by omega
          have hz0 : w.heap.size < w2.heap.size := by omega
          go_wp2_with fail
          go_loopg [8] t (fun gh ix wr => CutRel w2 T.c an (cy * an + cx) s t rx ry s t gh ix wr)
          case atStart => exact ⟨0, 0, none, 0, by omega, rfl, LBox.new _ _ _ _ _ _ _ _ _ _ rfl, fresh_frozen _ _ _ _, Own.nil _ _ _, by simp, (Below.refl _ _).alloc (Nat.le_refl _) _⟩
          case round =>
            obtain ⟨k, m, A2, c2, hkg, rfl, hbx, of2, hown, hwz, hbw⟩ := hrel
            clear t0 t1 t2 t3 t4 r0 r1 r2 r3
            have hB4 := B2.out.below hbw hzz
            have HB4 := hide hB4
            have hR4 := R2.out.below hbw hz2
            have HR9 := hide hR4
            obtain ⟨p0, p1, p2, p3⟩ := hR4
            obtain ⟨⟨t0, t1, t2, t3, t4⟩, ⟨r0, r1, r2, r3⟩, ⟨z0, z1, z2, z3, z4, e0, e1, e2, e3, e4⟩, -⟩ := hB4
            cases gk with
            | zero =>
              have hge : ¬ ((k : Int) < t) := by omega
              have HKT := hide (show k = t by omega)
              obtain ⟨o0, o1, o2, o3, o4⟩ := hbx
              have HO := hide hown
              have hz4 := HB4.out.z.lt
              clear hown hbw hkg
              go_wp2
              refine bodyPost_ret (v := .tuple #[.agg #[.int .i64 rx, .int .i64 ry, .int .i64 s, .int .i64 t, .slice A2 m c2], .int .i64 0]) (by simp [results, Tryz.results42, go_sem, z0, z1, z2, z3, z4]) rfl ?_
              rw [HP.out]
              exact cut_ok HO.out HKT.out HB4.out hzz
            | succ gh =>
              have hlt : (k : Int) < t := by omega
              obtain ⟨r, hr⟩ : ∃ r : Nat, r = cy + k := ⟨_, rfl⟩
              obtain ⟨G, hG⟩ : ∃ G : Nat, G = r * an := ⟨_, rfl⟩
              obtain ⟨F, hFd⟩ : ∃ F : Nat, F = G + cx := ⟨_, rfl⟩
              have hFe : F = cy * an + cx + k * an := by rw [hFd, hG, hr, Nat.add_mul]; omega
              have hFl := HLEN.out k (by omega)
              rw [← hFe, HL.out] at hFl
              have hnm := HV.out.2.2.2
              have hxy := HXY.out
              have hr4 := HR4.out
              have hxe := HX.out
              have hye := HY.out
              have hae := HA.out
              have hs1 := HF1.out.1
              have hpos := HF1.out
              have hde := HD.out
              have ht1 := HT1.out
              have hv := HV.out
              simp only [in64] at hr4
              have y2 : IntKind.i64.wrap ((cy : Int) + k) = (r : Int) := by rw [hr, Int.natCast_add]; exact IntWalk.i64_in _ (by omega)
              have y3 : IntKind.i64.wrap ((r : Int) * T.a) = (G : Int) := by rw [hae, ← Int.natCast_mul, ← hG]; exact IntWalk.i64_in _ (by omega)
              have y4 : IntKind.i64.wrap ((G : Int) + cx) = (F : Int) := by rw [hFd, Int.natCast_add]; exact IntWalk.i64_in _ (by omega)
              have y5 : IntKind.i64.wrap ((F : Int) + s) = (F : Int) + s := IntWalk.i64_in _ (by omega)
              have q2 : (0 : Int) ≤ (F : Int) + s := by omega
              have q3 : ((F : Int) + s).toNat = F + s := by omega
              have q4 : (F : Int) ≤ (F : Int) + s := by omega
              have q5 : (F : Int) + s ≤ (c : Int) := by omega
              have q6 : ¬ c = F := by omega
              have hm2 : m = k * s := by
                have h9 := hown.1
                rw [witV_length, cutC_length _ _ _ _ _ fun j hj => HLEN.out j (by omega)] at h9
                omega
              have HFE := hide hFe
              have hmb : m + s ≤ 4194304 := by
                have h5 : (k + 1) * s ≤ dn * an := Nat.mul_le_mul (by have := HT1.out; omega) (by have := HS1.out; omega)
                rw [Nat.add_mul, Nat.mul_comm dn an, ← HN.out] at h5
                omega
              have o4 := hbx.t4
              have HBX := hide hbx
              have HBW := hide hbw
              have HLP : Hid (((T.c.drop F).take s).length = s) := by show _ = _; simp; have := HL.out; omega
              have hS : wr.cell? ⟨w.heap.size, 4, none⟩ = some (.slice A n c) ∧ wr.cell? ⟨w.heap.size + 1, 2, none⟩ = some (.int .i64 s) ∧ wr.cell? ⟨w2.heap.size, 4, none⟩ = some (.slice A2 m c2) := ⟨t4, r2, o4⟩
              have HS := hide hS
              have SK : Hid (∀ W, Below (w2.heap.size + 1) wr W → W.cell? ⟨w.heap.size, 4, none⟩ = some (.slice A n c) ∧ W.cell? ⟨w.heap.size + 1, 2, none⟩ = some (.int .i64 s) ∧ W.cell? ⟨w2.heap.size, 4, none⟩ = some (.slice A2 m c2)) := by
                intro W hW
                exact ⟨(hW.cell (p := ⟨w.heap.size, 4, none⟩) (by simp; omega)).trans t4, (hW.cell (p := ⟨w.heap.size + 1, 2, none⟩) (by simp; omega)).trans r2, (hW.cell (p := ⟨w2.heap.size, 4, none⟩) (by simp)).trans o4⟩
              have Q9 : Hid (∀ W, Kept wr W → Row W (A.map (·.add (F * 3))) (witV ((T.c.drop F).take s))) := fun W hW => HROW.out W F (HB4.out.k.trans (hW.mono (by omega)))
              have hb1 : ¬ w.heap.size = w2.heap.size := by omega
              have hb2 : ¬ w.heap.size + 1 = w2.heap.size := by omega
              have HYK : Hid (wrap64 ((k : Int) + 1) = (k : Int) + 1) := IntWalk.wrap64_in _ (by omega)
              clear hr hG hFd hFe hFl hxy hr4 hxe hye hae hpos hde ht1 hv hm2 hbx hbw hS t3 t4 r2 z0 z1 z2 z3 z4 e0 e1 e2 e3 e4 o4
              go_wp2_with fail
              refine wp_region_L (fun X => X.cell? ⟨w.heap.size, 4, none⟩ = some (.slice A n c) ∧ X.cell? ⟨w.heap.size + 1, 2, none⟩ = some (.int .i64 s) ∧ X.cell? ⟨w2.heap.size, 4, none⟩ = some (.slice A2 m c2)) 12 (by kernel_rfl) ?_ (fun hHeld => ?_)
              · first | exact HS.out | assumption
              refine wpAnyL_take (i := 0) (v := ?_) (some 76) rfl rfl (by kernel_rfl) (by kernel_rfl) (by kernel_rfl) (by kernel_rfl) (fun _ _ _ h => h) (Or.inl ⟨by rfl, ?_⟩) (by assumption) ?_
              rotate_left
              · intro w hSw; (try dsimp only at hSw); go_simp; (try with_reducible rfl)
              try simp only [Act.put, List.setIfInBounds_toArray, List.set_cons_zero, List.set_cons_succ]
              refine wpAnyL_take (i := 1) (v := ?_) (some 77) rfl rfl (by kernel_rfl) (by kernel_rfl) (by kernel_rfl) (by kernel_rfl) (fun _ _ _ h => h) (Or.inl ⟨by rfl, ?_⟩) (by assumption) ?_
              rotate_left
              · intro w hSw; (try dsimp only at hSw); go_simp; (try with_reducible rfl)
              try simp only [Act.put, List.setIfInBounds_toArray, List.set_cons_zero, List.set_cons_succ]
              refine wpAnyL_take (i := 2) (v := ?_) (some 78) rfl rfl (by kernel_rfl) (by kernel_rfl) (by kernel_rfl) (by kernel_rfl) (fun _ _ _ h => h) (Or.inl ⟨by rfl, ?_⟩) (by assumption) ?_
              rotate_left
              · intro w hSw; (try dsimp only at hSw); go_simp; (try with_reducible rfl)
              try simp only [Act.put, List.setIfInBounds_toArray, List.set_cons_zero, List.set_cons_succ]
              refine wpAnyL_take (i := 3) (v := ?_) (some 79) rfl rfl (by kernel_rfl) (by kernel_rfl) (by kernel_rfl) (by kernel_rfl) (fun _ _ _ h => h) (Or.inl ⟨by rfl, ?_⟩) (by assumption) ?_
              rotate_left
              · intro w hSw; (try dsimp only at hSw); go_simp; (try with_reducible rfl)
              try simp only [Act.put, List.setIfInBounds_toArray, List.set_cons_zero, List.set_cons_succ]
              refine wpAnyL_take (i := 4) (v := ?_) (some 80) rfl rfl (by kernel_rfl) (by kernel_rfl) (by kernel_rfl) (by kernel_rfl) (fun _ _ _ h => h) (Or.inl ⟨by rfl, ?_⟩) (by assumption) ?_
              rotate_left
              · intro w hSw; (try dsimp only at hSw); go_simp; (try with_reducible rfl)
              try simp only [Act.put, List.setIfInBounds_toArray, List.set_cons_zero, List.set_cons_succ]
              refine wpAnyL_take (i := 5) (v := ?_) (some 81) rfl rfl (by kernel_rfl) (by kernel_rfl) (by kernel_rfl) (by kernel_rfl) (fun _ _ _ h => h) (Or.inl ⟨by rfl, ?_⟩) (by assumption) ?_
              rotate_left
              · intro w hSw; (try dsimp only at hSw); go_simp; (try with_reducible rfl)
              try simp only [Act.put, List.setIfInBounds_toArray, List.set_cons_zero, List.set_cons_succ]
              refine wpAnyL_take (i := 6) (v := ?_) (some 82) rfl rfl (by kernel_rfl) (by kernel_rfl) (by kernel_rfl) (by kernel_rfl) (fun _ _ _ h => h) (Or.inl ⟨by rfl, ?_⟩) (by assumption) ?_
              rotate_left
              · intro w hSw; (try dsimp only at hSw); go_simp; (try with_reducible rfl)
              try simp only [Act.put, List.setIfInBounds_toArray, List.set_cons_zero, List.set_cons_succ]
              refine wpAnyL_take (i := 7) (v := ?_) (some 83) rfl rfl (by kernel_rfl) (by kernel_rfl) (by kernel_rfl) (by kernel_rfl) (fun _ _ _ h => h) (Or.inl ⟨by rfl, ?_⟩) (by assumption) ?_
              rotate_left
              · intro w hSw; (try dsimp only at hSw); go_simp; (try with_reducible rfl)
              try simp only [Act.put, List.setIfInBounds_toArray, List.set_cons_zero, List.set_cons_succ]
              refine wpAnyL_take (i := 8) (v := ?_) (some 84) rfl rfl (by kernel_rfl) (by kernel_rfl) (by kernel_rfl) (by kernel_rfl) (fun _ _ _ h => h) (Or.inl ⟨by rfl, ?_⟩) (by assumption) ?_
              rotate_left
              · intro w hSw; (try dsimp only at hSw); go_simp; (try with_reducible rfl)
              try simp only [Act.put, List.setIfInBounds_toArray, List.set_cons_zero, List.set_cons_succ]
              refine wpAnyL_one (i := 9) (by kernel_rfl) rfl (fun K hK => ?_)
              go_simp
              refine hK.out _ _ ?_ (fun hHeld => ?_)
              · first | exact HS.out | assumption
              clear hK K
              try simp only [Act.put, List.setIfInBounds_toArray, List.set_cons_zero, List.set_cons_succ]
              refine wpAnyL_one (i := 10) (by kernel_rfl) rfl (fun K hK => ?_)
              (refine step_append_row _ rfl _ _ 54 rfl (w2.heap.size + 1) 69 i0 (.agg #[.int .u8 0, .int .i64 0, .int .i64 0]) 3 24 Tryz.underlying54 hi hi0 hi1 hi2 rfl (by decide) (.slice A2 m c2) m _ rfl (hown.kept (Below.refl _ wr).drew) (A.map (·.add (F * 3))) s (c - F) (witV ((T.c.drop F).take s)) rfl (by rw [witV_length, HLP.out]) (Q9.out wr.drew (Below.refl _ wr).drew) (witV_one _) (by unfold maxLen; omega) (by omega) (by simp; omega) ?_; intro v5 w5 hown5 hg5 hat5; have hb5 : Below (w2.heap.size + 1) wr w5 := below_append (Below.refl _ wr).drew (hown.kept (Below.refl _ wr).drew) (Nat.le_refl _) (by simp; omega) hg5; obtain ⟨A5, c5, rfl, -, -, -, -, -⟩ := hown5.form; have hS5 := SK.out w5 hb5; have ef := (hb5.frozen (p := ⟨w2.heap.size, 4, none⟩) (by simp)).trans of2)
              refine hK.out _ _ ?_ (fun hHeld => ?_)
              · first | exact HS.out | assumption
              clear hK K
              try simp only [Act.put, List.setIfInBounds_toArray]
              refine wpAnyL_one (i := 11) (by kernel_rfl) rfl (fun K hK => ?_)
              go_simp
              refine hK.out _ _ ?_ (fun hHeld => ?_)
              · first | exact HS.out | assumption
              clear hK K
              try simp only [Act.put, List.setIfInBounds_toArray, List.set_cons_zero, List.set_cons_succ]
              refine wpAnyL_end (by kernel_rfl) rfl (fun K hK => ?_)
              go_simp
              refine hK.out _ _ ?_
              clear hK K
              try simp only [Act.put, List.setIfInBounds_toArray, List.set_cons_zero, List.set_cons_succ]
              refine wpAnyL_done (by kernel_rfl) ?_ _
              have HO5 := hide hown5
              have HB5 := hide hb5
              have ef5 := hide ef
              clear hown5 hg5 hat5 hb5 ef hS5
              go_wp2
              go_roundg gh
              case measure => omega
              case rel => rw [HYK.out]; exact rel_cut HBX.out HBW.out HB5.out (by rw [← HFE.out]; exact HO5.out) ef5.out hkg hwz
end Go.Proofs.YtneakieigiafpaaGreatDoor
