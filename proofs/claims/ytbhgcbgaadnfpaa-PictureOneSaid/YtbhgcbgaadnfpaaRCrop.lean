/- The reference's Crop, walked. -/
import Derived.Test.YtbhgcbgaadnfpaaCropW
import Derived.Test.YtbhgcbgaadnfpaaRefA
namespace Go.Proofs.Ytbhgcbgaadnfpaa
open Go.RowKit

set_option maxRecDepth 100000 in
set_option maxHeartbeats 400000 in
theorem rcrop_bad (a d : Int) (A : Option Addr) (n cc : Nat) (c f s t : Int) (w : World) (P : PicD) (ha : -9223372036854775808 ≤ a) (ha' : a ≤ 9223372036854775807) (hd : -9223372036854775808 ≤ d) (hd' : d ≤ 9223372036854775807) (hn : n ≤ 9223372036854775807) (hm : mayB a d n = false) :
    Calls Try.prog 34 #[.agg #[.int .i64 a, .int .i64 d, .slice A n cc], .int .i64 c, .int .i64 f, .int .i64 s, .int .i64 t] w (PutPost w 290 P) := by
  have R0 := hide (Res0.new_at w (w.alloc (.cells #[.int .i64 a, .int .i64 d, .slice A n cc] 24)) 24 (w.heap.size + 1) (by simp) ((Below.refl _ _).alloc (Nat.le_refl _) _))
  have HCK := hide hm
  clear hm
  go_enter Try.func34, Try.ntmps34
  go_wp2_with (go_at_call 24; refine (may_any a d A n cc _ ha ha' hd hd' hn).mono ?_; rintro e w1 ⟨rfl, hk1⟩; rw [HCK.out]; have R1 := R0.out.below hk1 (by simp); have t0 := R1.r0; have t1 := R1.r1; have t2 := R1.r2; have g0 := R1.f0; have g1 := R1.f1; have g2 := R1.f2; have R2 := hide R1; clear R1)
  exact bodyPost_ret (v := .tuple #[.agg #[.int .i64 0, .int .i64 0, .slice none 0 0], .int .i64 290]) (by simp [results, Try.results34, go_sem, t0, t1, t2]) rfl (PutPost.err (by omega) (R2.out.stored _ _ _))

set_option maxRecDepth 100000 in
set_option maxHeartbeats 1600000 in
theorem rcrop_arg (a d : Int) (A : Option Addr) (n cc : Nat) (c f s t : Int) (w : World) (P : PicD) (hm : mayB a d n = true) (h0 : -9223372036854775808 ≤ s) (h0' : s ≤ 9223372036854775807) (h1 : -9223372036854775808 ≤ t) (h1' : t ≤ 9223372036854775807) (hcut : cutB a d c f s t = false) :
    Calls Try.prog 34 #[.agg #[.int .i64 a, .int .i64 d, .slice A n cc], .int .i64 c, .int .i64 f, .int .i64 s, .int .i64 t] w (PutPost w 2 P) := by
  have R0 := hide (Res0.new_at w (w.alloc (.cells #[.int .i64 a, .int .i64 d, .slice A n cc] 24)) 24 (w.heap.size + 1) (by simp) ((Below.refl _ _).alloc (Nat.le_refl _) _))
  have B0 := hide (((Box.new w (.int .i64 a) (.int .i64 d) (.slice A n cc) 24 _ rfl)).alloc (.cells #[.int .i64 0, .int .i64 0, .slice none 0 0] 24))
  have hck := hm
  obtain ⟨v1, v2, v3, v4, v5, v6, v7⟩ := mayB_bounds hm
  have HCK := hide hck
  have HC := hide (cutB_no hcut)
  clear hm hck v5 hcut
  go_enter Try.func34, Try.ntmps34
  go_wp2_with (go_at_call 24; refine (may_any a d A n cc _ (by omega) (by omega) (by omega) (by omega) (by omega)).mono ?_; rintro e w1 ⟨rfl, hk1⟩; rw [HCK.out]; have R1 := R0.out.below hk1 (by simp); obtain ⟨p0, p1, p2⟩ := B0.out.kept hk1; have t0 := R1.r0; have t1 := R1.r1; have t2 := R1.r2; have g0 := R1.f0; have g1 := R1.f1; have g2 := R1.f2; have R2 := hide R1; clear R1)
  all_goals first
    | (exfalso; have := HC.out; omega)
    | exact bodyPost_ret (v := .tuple #[.agg #[.int .i64 0, .int .i64 0, .slice none 0 0], .int .i64 2]) (by simp [results, Try.results34, go_sem, t0, t1, t2]) rfl (PutPost.err (by omega) (R2.out.stored _ _ _))

set_option maxRecDepth 100000 in
set_option maxHeartbeats 1600000 in
theorem rcrop_ok (a d : Int) (A : Option Addr) (n cc : Nat) (g : List UInt8) (c f s t : Nat) (w : World) (hm : mayB a d n = true) (hnc : n ≤ cc) (hl : g.length = n) (hr : Row w A (bytesV g)) (h1 : 1 ≤ s) (h2 : 1 ≤ t) (h3 : (c : Int) + s ≤ a) (h4 : (f : Int) + t ≤ d) :
    Calls Try.prog 34 #[.agg #[.int .i64 a, .int .i64 d, .slice A n cc], .int .i64 c, .int .i64 f, .int .i64 s, .int .i64 t] w (PutPost w 0 ⟨s, t, cropG a.toNat c s g f t⟩) := by
  obtain ⟨i0, hi, hi0, hi1, hi2⟩ := info_parts info_u8
  have R0 := hide (Res0.new_at w (w.alloc (.cells #[.int .i64 a, .int .i64 d, .slice A n cc] 24)) 24 (w.heap.size + 1) (by simp) ((Below.refl _ _).alloc (Nat.le_refl _) _))
  have B0 := hide (((Box.new w (.int .i64 a) (.int .i64 d) (.slice A n cc) 24 _ rfl)).alloc (.cells #[.int .i64 0, .int .i64 0, .slice none 0 0] 24))
  have HROW := hide (hr.kept (((Below.refl _ w).alloc (Nat.le_refl _) (.cells #[.int .i64 a, .int .i64 d, .slice A n cc] 24)).alloc (by simp) (.cells #[.int .i64 0, .int .i64 0, .slice none 0 0] 24)))
  have hck := hm
  have HCK := hide hck
  obtain ⟨v1, v2, v3, v4, v5, v6, v7⟩ := mayB_bounds hm
  obtain ⟨an, rfl⟩ := Int.eq_ofNat_of_zero_le (show 0 ≤ a by omega)
  obtain ⟨dn, rfl⟩ := Int.eq_ofNat_of_zero_le (show 0 ≤ d by omega)
  have hgl : g.length = an * dn := by
    have : ((g.length : Nat) : Int) = ((an * dn : Nat) : Int) := by rw [hl, v5, Int.natCast_mul]
    omega
  have HL := hide hgl
  have HGN := hide hl
  have HM := hide hm
  have e1 : ¬ (s : Int) < 1 := by omega
  have e2 : ¬ (t : Int) < 1 := by omega
  have e3 : ¬ (c : Int) < 0 := by omega
  have e4 : ¬ (f : Int) < 0 := by omega
  have e5 : ¬ an < s := by omega
  have e6 : ¬ dn < t := by omega
  have e7 : ¬ (an : Int) - s < c := by omega
  have e8 : ¬ (dn : Int) - t < f := by omega
  clear hm hck hr hl v5 hgl
  rw [Int.toNat_natCast]
  go_enter Try.func34, Try.ntmps34
  go_wp2_with (go_at_call 24; refine (may_any an dn A n cc _ (by omega) (by omega) (by omega) (by omega) (by omega)).mono ?_; rintro e w1 ⟨rfl, hk1⟩; rw [HCK.out]; have R1 := hide (R0.out.below hk1 (by simp)); obtain ⟨p0, p1, p2⟩ := B0.out.kept hk1; have HB1 := hide (B0.out.kept hk1); have HR1 := hide (HROW.out.kept hk1); have hz1 := R1.out.lt; have HBOX := hide (fun (W : World) (hW : Below w1.heap.size w1 W) => R1.out.below hW R1.out.lt); have hz0 := lt_of_cell p0; clear hk1)
  go_loopg [13] t (fun gh ix wr => CropRel an c s s t g f t w1 gh ix wr)
  case atStart =>
    refine ⟨0, 0, none, 0, by omega, by go_num, Box.new _ _ _ _ _ _ rfl, frozen_fresh _ _ _ _, Own.nil _ _ _, by simp, (Below.refl _ _).alloc (Nat.le_refl _) _⟩
  case round =>
    obtain ⟨k, m, A2, c2, hkg, rfl, hbx, of2, hown, hwz, hbw⟩ := hrel
    cases gk with
    | zero =>
      have hge : ¬ ((f : Int) + k) < f + t := by omega
      have HKT := hide (show k = t by omega)
      have BX := HBOX.out wr hbw
      have t0 := BX.r0
      have t1 := BX.r1
      have t2 := BX.r2
      have g0 := BX.f0
      have g1 := BX.f1
      have g2 := BX.f2
      have tl := BX.lt
      have RES := hide BX
      obtain ⟨o0, o1, o2⟩ := hbx
      have HO := hide hown
      clear BX hown hbw hkg
      go_wp2
      exact bodyPost_ret (v := .tuple #[.agg #[.int .i64 s, .int .i64 t, .slice A2 m c2], .int .i64 0]) (by simp [results, Try.results34, go_sem, t0, t1, t2]) rfl (put_ok HO.out (by rw [HKT.out]) RES.out (by omega))
    | succ gh =>
      have hlt : ((f : Int) + k) < f + t := by omega
      obtain ⟨c0, c1, c2'⟩ := HB1.out.kept hbw
      have o2 := hbx.2.2
      have HBX := hide hbx
      have HRR := hide (HR1.out.kept hbw)
      have HBW := hide hbw
      have hlp := piece_length an c s g (f + k) dn HL.out (by omega) (by omega)
      have hlt2 := cropG_length an c s dn g f HL.out (by omega) k (by omega)
      have hm2 : m = k * s := by have := hown.1; rw [bytesV_length] at this; omega
      have hmb : m + s ≤ 4194304 := by
        have h5 : (k + 1) * s ≤ dn * an := Nat.mul_le_mul (by omega) (by omega)
        have h6 : ((dn * an : Nat) : Int) ≤ 4194304 := by have := sizeB_bounds (a := an) (d := dn) (by have := HM.out; simp only [mayB, Bool.and_eq_true] at this; exact this.1); rw [Int.natCast_mul, Int.mul_comm]; exact this.2.2.2.2.2
        rw [Nat.add_mul] at h5
        omega
      have HLP := hide hlp
      have hS : wr.cell? ⟨w.heap.size, 0, none⟩ = some (.int .i64 an) ∧ wr.cell? ⟨w.heap.size, 1, none⟩ = some (.int .i64 dn) ∧ wr.cell? ⟨w.heap.size, 2, none⟩ = some (.slice A n cc) ∧ wr.cell? ⟨w1.heap.size, 2, none⟩ = some (.slice A2 m c2) := ⟨c0, c1, c2', o2⟩
      have HS := hide hS
      obtain ⟨M, hM⟩ : ∃ M, M = (f + k) * an := ⟨_, rfl⟩
      have hMn : M + an ≤ n := by
        have h5 : (f + k + 1) * an ≤ dn * an := Nat.mul_le_mul_right _ (by omega)
        have h6 := HL.out
        have h7 := HGN.out
        rw [Nat.mul_comm dn an, ← h6, h7, Nat.add_mul, ← hM] at h5
        omega
      have hMI : ((f : Int) + k) * an = (M : Int) := by rw [hM, Int.natCast_mul, Int.natCast_add]
      have q0 : IntKind.i64.wrap (((f : Int) + k) * an) = (M : Int) := by rw [hMI]; exact IntWalk.i64_in _ (by omega)
      have q1 : IntKind.i64.wrap ((M : Int) + c) = (M : Int) + c := IntWalk.i64_in _ (by omega)
      have q2 : IntKind.i64.wrap ((M : Int) + c + s) = (M : Int) + c + s := IntWalk.i64_in _ (by omega)
      have q3 : ((M : Int) + c).toNat = M + c := by omega
      have q4 : ((M : Int) + c + s).toNat = M + c + s := by omega
      have q5 : (0 : Int) ≤ (M : Int) + c := by omega
      have q6 : (M : Int) + c ≤ (M : Int) + c + s := by omega
      have q7 : (M : Int) + c + s ≤ (cc : Int) := by omega
      have q8 : ¬ cc = M + c := by omega
      have q10 : M + c + s - (M + c) = s := by omega
      have HM2 := hide hM
      clear hMI hM hMn
      have hz1' : w1.heap.size < wr.heap.size := hwz
      have Q9 : Hid (∀ W, Kept wr W → Row W (A.map (·.add (M + c))) (bytesV (((rowOf an g (f + k)).drop c).take s))) := by
        intro W hW
        have h9 := ((HRR.out.kept hW).drop (M + c)).take s
        rw [bytesV_drop, bytesV_take] at h9
        rw [piece_ref an c s g (f + k) (by omega), ← HM2.out]
        exact h9
      have SK : Hid (∀ W, Below (w1.heap.size + 1) wr W → W.cell? ⟨w.heap.size, 0, none⟩ = some (.int .i64 an) ∧ W.cell? ⟨w.heap.size, 1, none⟩ = some (.int .i64 dn) ∧ W.cell? ⟨w.heap.size, 2, none⟩ = some (.slice A n cc) ∧ W.cell? ⟨w1.heap.size, 2, none⟩ = some (.slice A2 m c2)) := by
        intro W hW
        exact ⟨(hW.cell (p := ⟨w.heap.size, 0, none⟩) (by simp; omega)).trans c0, (hW.cell (p := ⟨w.heap.size, 1, none⟩) (by simp; omega)).trans c1, (hW.cell (p := ⟨w.heap.size, 2, none⟩) (by simp; omega)).trans c2', (hW.cell (p := ⟨w1.heap.size, 2, none⟩) (by simp)).trans o2⟩
      clear hlp hlt2 hm2 hbx c0 c1 c2' o2 hS hbw
      go_wp2_with fail
      clear h1 h2 h3 h4
      refine wp_region_L (fun X => X.cell? ⟨w.heap.size, 0, none⟩ = some (.int .i64 an) ∧ X.cell? ⟨w.heap.size, 1, none⟩ = some (.int .i64 dn) ∧ X.cell? ⟨w.heap.size, 2, none⟩ = some (.slice A n cc) ∧ X.cell? ⟨w1.heap.size, 2, none⟩ = some (.slice A2 m c2)) 21 (by kernel_rfl) ?_ (fun hHeld => ?_)
      · first | exact HS.out | assumption
      refine wpAnyL_take (i := 0) (v := ?_) (some 72) rfl rfl (by kernel_rfl) (by kernel_rfl) (by kernel_rfl) (by kernel_rfl) (fun _ _ _ h => h) (Or.inl ⟨by rfl, ?_⟩) (by assumption) ?_
      rotate_left
      · intro w hSw; (try dsimp only at hSw); go_simp; (try with_reducible rfl)
      try simp only [Act.put, List.setIfInBounds_toArray, List.set_cons_zero, List.set_cons_succ]
      refine wpAnyL_take (i := 1) (v := ?_) (some 73) rfl rfl (by kernel_rfl) (by kernel_rfl) (by kernel_rfl) (by kernel_rfl) (fun _ _ _ h => h) (Or.inl ⟨by rfl, ?_⟩) (by assumption) ?_
      rotate_left
      · intro w hSw; (try dsimp only at hSw); go_simp; (try with_reducible rfl)
      try simp only [Act.put, List.setIfInBounds_toArray, List.set_cons_zero, List.set_cons_succ]
      refine wpAnyL_take (i := 2) (v := ?_) (some 74) rfl rfl (by kernel_rfl) (by kernel_rfl) (by kernel_rfl) (by kernel_rfl) (fun _ _ _ h => h) (Or.inl ⟨by rfl, ?_⟩) (by assumption) ?_
      rotate_left
      · intro w hSw; (try dsimp only at hSw); go_simp; (try with_reducible rfl)
      try simp only [Act.put, List.setIfInBounds_toArray, List.set_cons_zero, List.set_cons_succ]
      refine wpAnyL_take (i := 3) (v := ?_) (some 75) rfl rfl (by kernel_rfl) (by kernel_rfl) (by kernel_rfl) (by kernel_rfl) (fun _ _ _ h => h) (Or.inl ⟨by rfl, ?_⟩) (by assumption) ?_
      rotate_left
      · intro w hSw; (try dsimp only at hSw); go_simp; (try with_reducible rfl)
      try simp only [Act.put, List.setIfInBounds_toArray, List.set_cons_zero, List.set_cons_succ]
      refine wpAnyL_take (i := 4) (v := ?_) (some 76) rfl rfl (by kernel_rfl) (by kernel_rfl) (by kernel_rfl) (by kernel_rfl) (fun _ _ _ h => h) (Or.inl ⟨by rfl, ?_⟩) (by assumption) ?_
      rotate_left
      · intro w hSw; (try dsimp only at hSw); go_simp; (try with_reducible rfl)
      try simp only [Act.put, List.setIfInBounds_toArray, List.set_cons_zero, List.set_cons_succ]
      refine wpAnyL_take (i := 5) (v := ?_) (some 77) rfl rfl (by kernel_rfl) (by kernel_rfl) (by kernel_rfl) (by kernel_rfl) (fun _ _ _ h => h) (Or.inl ⟨by rfl, ?_⟩) (by assumption) ?_
      rotate_left
      · intro w hSw; (try dsimp only at hSw); go_simp; (try with_reducible rfl)
      try simp only [Act.put, List.setIfInBounds_toArray, List.set_cons_zero, List.set_cons_succ]
      refine wpAnyL_take (i := 6) (v := ?_) (some 78) rfl rfl (by kernel_rfl) (by kernel_rfl) (by kernel_rfl) (by kernel_rfl) (fun _ _ _ h => h) (Or.inl ⟨by rfl, ?_⟩) (by assumption) ?_
      rotate_left
      · intro w hSw; (try dsimp only at hSw); go_simp; (try with_reducible rfl)
      try simp only [Act.put, List.setIfInBounds_toArray, List.set_cons_zero, List.set_cons_succ]
      refine wpAnyL_take (i := 7) (v := ?_) (some 79) rfl rfl (by kernel_rfl) (by kernel_rfl) (by kernel_rfl) (by kernel_rfl) (fun _ _ _ h => h) (Or.inl ⟨by rfl, ?_⟩) (by assumption) ?_
      rotate_left
      · intro w hSw; (try dsimp only at hSw); go_simp; (try with_reducible rfl)
      try simp only [Act.put, List.setIfInBounds_toArray, List.set_cons_zero, List.set_cons_succ]
      refine wpAnyL_take (i := 8) (v := ?_) (some 80) rfl rfl (by kernel_rfl) (by kernel_rfl) (by kernel_rfl) (by kernel_rfl) (fun _ _ _ h => h) (Or.inl ⟨by rfl, ?_⟩) (by assumption) ?_
      rotate_left
      · intro w hSw; (try dsimp only at hSw); go_simp; (try with_reducible rfl)
      try simp only [Act.put, List.setIfInBounds_toArray, List.set_cons_zero, List.set_cons_succ]
      refine wpAnyL_take (i := 9) (v := ?_) (some 81) rfl rfl (by kernel_rfl) (by kernel_rfl) (by kernel_rfl) (by kernel_rfl) (fun _ _ _ h => h) (Or.inl ⟨by rfl, ?_⟩) (by assumption) ?_
      rotate_left
      · intro w hSw; (try dsimp only at hSw); go_simp; (try with_reducible rfl)
      try simp only [Act.put, List.setIfInBounds_toArray, List.set_cons_zero, List.set_cons_succ]
      refine wpAnyL_take (i := 10) (v := ?_) (some 82) rfl rfl (by kernel_rfl) (by kernel_rfl) (by kernel_rfl) (by kernel_rfl) (fun _ _ _ h => h) (Or.inl ⟨by rfl, ?_⟩) (by assumption) ?_
      rotate_left
      · intro w hSw; (try dsimp only at hSw); go_simp; (try with_reducible rfl)
      try simp only [Act.put, List.setIfInBounds_toArray, List.set_cons_zero, List.set_cons_succ]
      refine wpAnyL_take (i := 11) (v := ?_) (some 83) rfl rfl (by kernel_rfl) (by kernel_rfl) (by kernel_rfl) (by kernel_rfl) (fun _ _ _ h => h) (Or.inl ⟨by rfl, ?_⟩) (by assumption) ?_
      rotate_left
      · intro w hSw; (try dsimp only at hSw); go_simp; (try with_reducible rfl)
      try simp only [Act.put, List.setIfInBounds_toArray, List.set_cons_zero, List.set_cons_succ]
      refine wpAnyL_take (i := 12) (v := ?_) (some 84) rfl rfl (by kernel_rfl) (by kernel_rfl) (by kernel_rfl) (by kernel_rfl) (fun _ _ _ h => h) (Or.inl ⟨by rfl, ?_⟩) (by assumption) ?_
      rotate_left
      · intro w hSw; (try dsimp only at hSw); go_simp; (try with_reducible rfl)
      try simp only [Act.put, List.setIfInBounds_toArray, List.set_cons_zero, List.set_cons_succ]
      refine wpAnyL_take (i := 13) (v := ?_) (some 85) rfl rfl (by kernel_rfl) (by kernel_rfl) (by kernel_rfl) (by kernel_rfl) (fun _ _ _ h => h) (Or.inl ⟨by rfl, ?_⟩) (by assumption) ?_
      rotate_left
      · intro w hSw; (try dsimp only at hSw); go_simp; (try with_reducible rfl)
      try simp only [Act.put, List.setIfInBounds_toArray, List.set_cons_zero, List.set_cons_succ]
      refine wpAnyL_take (i := 14) (v := ?_) (some 86) rfl rfl (by kernel_rfl) (by kernel_rfl) (by kernel_rfl) (by kernel_rfl) (fun _ _ _ h => h) (Or.inl ⟨by rfl, ?_⟩) (by assumption) ?_
      rotate_left
      · intro w hSw; (try dsimp only at hSw); go_simp; (try with_reducible rfl)
      try simp only [Act.put, List.setIfInBounds_toArray, List.set_cons_zero, List.set_cons_succ]
      refine wpAnyL_take (i := 15) (v := ?_) (some 87) rfl rfl (by kernel_rfl) (by kernel_rfl) (by kernel_rfl) (by kernel_rfl) (fun _ _ _ h => h) (Or.inl ⟨by rfl, ?_⟩) (by assumption) ?_
      rotate_left
      · intro w hSw; (try dsimp only at hSw); go_simp; (try with_reducible rfl)
      try simp only [Act.put, List.setIfInBounds_toArray, List.set_cons_zero, List.set_cons_succ]
      refine wpAnyL_take (i := 16) (v := ?_) (some 88) rfl rfl (by kernel_rfl) (by kernel_rfl) (by kernel_rfl) (by kernel_rfl) (fun _ _ _ h => h) (Or.inl ⟨by rfl, ?_⟩) (by assumption) ?_
      rotate_left
      · intro w hSw; (try dsimp only at hSw); go_simp; (try with_reducible rfl)
      try simp only [Act.put, List.setIfInBounds_toArray, List.set_cons_zero, List.set_cons_succ]
      refine wpAnyL_take (i := 17) (v := ?_) (some 89) rfl rfl (by kernel_rfl) (by kernel_rfl) (by kernel_rfl) (by kernel_rfl) (fun _ _ _ h => h) (Or.inl ⟨by rfl, ?_⟩) (by assumption) ?_
      rotate_left
      · intro w hSw; (try dsimp only at hSw); go_simp; (try with_reducible rfl)
      try simp only [Act.put, List.setIfInBounds_toArray, List.set_cons_zero, List.set_cons_succ]
      refine wpAnyL_one (i := 18) (by kernel_rfl) rfl (fun K hK => ?_)
      go_simp
      refine hK.out _ _ ?_ (fun hHeld => ?_)
      · first | exact HS.out | assumption
      clear hK K
      try simp only [Act.put, List.setIfInBounds_toArray, List.set_cons_zero, List.set_cons_succ]
      refine wpAnyL_one (i := 19) (by kernel_rfl) rfl (fun K hK => ?_)
      (refine step_append_row _ rfl _ _ 22 rfl (w1.heap.size + 1) 5 i0 (.int .u8 0) 1 1 Try.underlying22 hi hi0 hi1 hi2 rfl (by decide) (.slice A2 m c2) m _ rfl (hown.kept (Below.refl _ wr).drew) (A.map (·.add (M + c))) s (cc - (M + c)) (bytesV (((rowOf an g (f + k)).drop c).take s)) rfl (by rw [bytesV_length, HLP.out, Nat.mul_one]) (Q9.out _ (Below.refl _ wr).drew) (bytesV_one _) (by unfold maxLen; omega) (by omega) (by show w1.heap.size + 1 ≤ wr.heap.size; omega) ?_; intro v5 w5 hown5 hg5 hat5; have hb5 : Below (w1.heap.size + 1) wr w5 := below_append ((Below.refl _ wr).drew.mono (by show w1.heap.size + 1 ≤ wr.heap.size; omega)) (hown.kept (Below.refl _ wr).drew) (Nat.le_refl _) (by show w1.heap.size + 1 ≤ wr.heap.size; omega) hg5; obtain ⟨A5, c5, rfl, -, -, -, -, -⟩ := hown5.form; have hS5 := SK.out w5 hb5; have ef := (hb5.frozen (p := ⟨w1.heap.size, 2, none⟩) (by simp)).trans of2)
      refine hK.out _ _ ?_ (fun hHeld => ?_)
      · first | exact HS.out | assumption
      clear hK K
      try simp only [Act.put, List.setIfInBounds_toArray]
      refine wpAnyL_one (i := 20) (by kernel_rfl) rfl (fun K hK => ?_)
      go_simp
      refine hK.out _ _ ?_ (fun hHeld => ?_)
      · first | exact HS.out | assumption
      clear hK K
      try simp only [Act.put, List.setIfInBounds_toArray, List.set_cons_zero, List.set_cons_succ]
      refine wpAnyL_end (by kernel_rfl) rfl (fun K hK => ?_)
      go_simp
      refine hK.out _ _ ?_
      clear hK K
      try simp only [Act.put, List.setIfInBounds_toArray, List.set_cons_zero, List.set_cons_succ]
      refine wpAnyL_done (by kernel_rfl) ?_ _
      have HO5 := hide hown5
      have HB5 := hide hb5
      have ef5 := hide ef
      clear hown5 hg5 hat5 hb5 ef hS5
      go_wp2
      go_roundg gh
      case measure => omega
      case rel => exact rel_crop HBX.out HBW.out HB5.out HO5.out ef5.out hkg hz1'
theorem rcrop_any (p : PicD) (A : Option Addr) (n cc : Nat) (c f s t : Int) (w : World) (hp : PicAt w p A n cc) (h0 : -9223372036854775808 ≤ s) (h0' : s ≤ 9223372036854775807) (h1 : -9223372036854775808 ≤ t) (h1' : t ≤ 9223372036854775807) :
    Calls Try.prog 34 #[.agg #[.int .i64 p.a, .int .i64 p.d, .slice A n cc], .int .i64 c, .int .i64 f, .int .i64 s, .int .i64 t] w (PutPost w (cropE p c f s t) (cropP p c f s t)) := by
  have hl := hp.len
  cases hm : mayB p.a p.d n with
  | false =>
    rw [show cropE p c f s t = 290 by simp [cropE, PicD.may, hl, hm]]
    exact rcrop_bad p.a p.d A n cc c f s t w _ hp.a0 hp.a1 hp.d0 hp.d1 hp.max hm
  | true =>
    cases hc : cutB p.a p.d c f s t with
    | false =>
      rw [show cropE p c f s t = 2 by simp [cropE, PicD.may, hl, hm, hc]]
      exact rcrop_arg p.a p.d A n cc c f s t w _ hm h0 h0' h1 h1' hc
    | true =>
      rw [show cropE p c f s t = 0 by simp [cropE, PicD.may, hl, hm, hc]]
      obtain ⟨k1, k2, k3, k4, k5, k6, k7, k8⟩ := (cutB_iff _ _ _ _ _ _).1 hc
      obtain ⟨c, rfl⟩ := Int.eq_ofNat_of_zero_le k3
      obtain ⟨f, rfl⟩ := Int.eq_ofNat_of_zero_le k4
      obtain ⟨s, rfl⟩ := Int.eq_ofNat_of_zero_le (show 0 ≤ s by omega)
      obtain ⟨t, rfl⟩ := Int.eq_ofNat_of_zero_le (show 0 ≤ t by omega)
      exact rcrop_ok p.a p.d A n cc p.g c f s t w hm hp.cap hl hp.row (by omega) (by omega) (by omega) (by omega)
end Go.Proofs.Ytbhgcbgaadnfpaa
