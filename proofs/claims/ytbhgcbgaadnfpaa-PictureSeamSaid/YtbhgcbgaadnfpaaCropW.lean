/- picture.Crop, walked. -/
import Derived.Test.YtbhgcbgaadnfpaaPicX
import Derived.Test.YtbhgcbgaadnfpaaPicV
import Derived.Test.YtbhgcbgaadnfpaaBackL
namespace Go.Proofs.Ytbhgcbgaadnfpaa
open Go.RowKit

theorem Res0.new_at (w W : World) (r : TypeId) (b : Nat) (hb : b = W.heap.size) (h : Kept w W) : Res0 w (W.alloc (.cells #[.int .i64 0, .int .i64 0, .slice none 0 0] r)) b := by
  subst hb; exact Res0.new w W r h

theorem frozen_fresh (w : World) (cs : Array Value) (t : TypeId) (o : Nat) : (w.alloc (.cells cs t)).frozen? ⟨w.heap.size, o, none⟩ = false := by
  have hh : (w.alloc (.cells cs t)).heap[w.heap.size]? = some (.cells cs t (0, 0)) := by
    show (w.heap.push _)[w.heap.size]? = _
    simp
  simp only [World.frozen?, hh]; rfl

set_option maxRecDepth 100000 in
set_option maxHeartbeats 400000 in
theorem crop_bad (a d : Int) (A : Option Addr) (n cc : Nat) (c f s t : Int) (w : World) (P : PicD) (ha : -9223372036854775808 ≤ a) (ha' : a ≤ 9223372036854775807) (hd : -9223372036854775808 ≤ d) (hd' : d ≤ 9223372036854775807) (hn : n ≤ 9223372036854775807) (hm : mayB a d n = false) :
    Calls Try.prog 33 #[.agg #[.int .i64 a, .int .i64 d, .slice A n cc], .int .i64 c, .int .i64 f, .int .i64 s, .int .i64 t] w (PutPost w 290 P) := by
  have R0 := hide (Res0.new_at w (w.alloc (.cells #[.int .i64 a, .int .i64 d, .slice A n cc] 24)) 24 (w.heap.size + 1) (by simp) ((Below.refl _ _).alloc (Nat.le_refl _) _))
  have hck : checkI a d n = 290 := by simp [checkI, hm]
  have HCK := hide hck
  clear hm hck
  go_enter Try.func33, Try.ntmps33
  go_wp2_with (go_at_call 20; refine (check_any a d A n cc _ ha ha' hd hd' hn).mono ?_; rintro e w1 ⟨rfl, hk1⟩; rw [HCK.out]; have R1 := R0.out.below hk1 (by simp); have t0 := R1.r0; have t1 := R1.r1; have t2 := R1.r2; have g0 := R1.f0; have g1 := R1.f1; have g2 := R1.f2; have R2 := hide R1; clear R1)
  exact bodyPost_ret (v := .tuple #[.agg #[.int .i64 0, .int .i64 0, .slice none 0 0], .int .i64 290]) (by simp [results, Try.results33, go_sem, t0, t1, t2]) rfl (PutPost.err (by omega) (R2.out.stored _ _ _))

set_option maxRecDepth 100000 in
set_option maxHeartbeats 1600000 in
theorem crop_arg (a d : Int) (A : Option Addr) (n cc : Nat) (c f s t : Int) (w : World) (P : PicD) (hm : mayB a d n = true) (h0 : -9223372036854775808 ≤ s) (h0' : s ≤ 9223372036854775807) (h1 : -9223372036854775808 ≤ t) (h1' : t ≤ 9223372036854775807) (hcut : cutB a d c f s t = false) :
    Calls Try.prog 33 #[.agg #[.int .i64 a, .int .i64 d, .slice A n cc], .int .i64 c, .int .i64 f, .int .i64 s, .int .i64 t] w (PutPost w 2 P) := by
  have R0 := hide (Res0.new_at w (w.alloc (.cells #[.int .i64 a, .int .i64 d, .slice A n cc] 24)) 24 (w.heap.size + 1) (by simp) ((Below.refl _ _).alloc (Nat.le_refl _) _))
  have B0 := hide (((Box.new w (.int .i64 a) (.int .i64 d) (.slice A n cc) 24 _ rfl)).alloc (.cells #[.int .i64 0, .int .i64 0, .slice none 0 0] 24))
  have hck : checkI a d n = 0 := by simp [checkI, hm]
  obtain ⟨v1, v2, v3, v4, v5, v6, v7⟩ := mayB_bounds hm
  have HCK := hide hck
  have HC := hide (cutB_no hcut)
  clear hm hck v5 hcut
  go_enter Try.func33, Try.ntmps33
  go_wp2_with (go_at_call 20; refine (check_any a d A n cc _ (by omega) (by omega) (by omega) (by omega) (by omega)).mono ?_; rintro e w1 ⟨rfl, hk1⟩; rw [HCK.out]; have R1 := R0.out.below hk1 (by simp); obtain ⟨p0, p1, p2⟩ := B0.out.kept hk1; have t0 := R1.r0; have t1 := R1.r1; have t2 := R1.r2; have g0 := R1.f0; have g1 := R1.f1; have g2 := R1.f2; have R2 := hide R1; clear R1)
  all_goals first
    | (exfalso; have := HC.out; omega)
    | exact bodyPost_ret (v := .tuple #[.agg #[.int .i64 0, .int .i64 0, .slice none 0 0], .int .i64 2]) (by simp [results, Try.results33, go_sem, t0, t1, t2]) rfl (PutPost.err (by omega) (R2.out.stored _ _ _))

def CropRel (an c s : Nat) (t d : Int) (g : List UInt8) (f T : Nat) (w1 : World) (gh : Nat) (ix : Value) (wr : World) : Prop :=
  ∃ (k m : Nat) (A2 : Option Addr) (c2 : Nat), k + gh = T ∧ ix = .int .i64 ((f : Int) + k) ∧ Box wr w1.heap.size (.int .i64 t) (.int .i64 d) (.slice A2 m c2) ∧ wr.frozen? ⟨w1.heap.size, 2, none⟩ = false ∧
    Own wr (w1.heap.size + 1) 1 (.slice A2 m c2) m (bytesV (cropG an c s g f k)) ∧ w1.heap.size < wr.heap.size ∧ Below w1.heap.size w1 wr
theorem rel_crop {an c s : Nat} {x y : Int} {g : List UInt8} {f T k m gh c5 : Nat} {w1 wr w5 : World} {A2 A5 : Option Addr} {c2 : Nat} (hbx : Box wr w1.heap.size (.int .i64 x) (.int .i64 y) (.slice A2 m c2)) (hbw : Below w1.heap.size w1 wr) (hb5 : Below (w1.heap.size + 1) wr w5)
    (ho : Own w5 (w1.heap.size + 1) 1 (.slice A5 (m + s) c5) (m + s) (bytesV (cropG an c s g f k) ++ bytesV (((rowOf an g (f + k)).drop c).take s))) (hf : w5.frozen? ⟨w1.heap.size, 2, none⟩ = false) (hkg : k + (gh + 1) = T) (hz : w1.heap.size < wr.heap.size) :
    CropRel an c s x y g f T w1 gh (.int .i64 ((f : Int) + k + 1)) (w5.setCell ⟨w1.heap.size, 2, none⟩ (.slice A5 (m + s) c5)) := by
  have hz5 : w1.heap.size < w5.heap.size := Nat.lt_of_lt_of_le hz hb5.size
  have q0 := (hb5.cell (p := ⟨w1.heap.size, 0, none⟩) (by simp)).trans hbx.1
  have q1 := (hb5.cell (p := ⟨w1.heap.size, 1, none⟩) (by simp)).trans hbx.2.1
  have q2 := (hb5.cell (p := ⟨w1.heap.size, 2, none⟩) (by simp)).trans hbx.2.2
  refine ⟨k + 1, m + s, A5, c5, by omega, by go_num, ⟨?_, ?_, ?_⟩, ?_, ?_, by simpa [World.setCell] using hz5, (hbw.trans (hb5.mono (by omega))).setCell (by simp) _⟩
  · rw [World.cell?_setCell_other _ _ _ _ (by simp)]; exact q0
  · rw [World.cell?_setCell_other _ _ _ _ (by simp)]; exact q1
  · rw [World.cell?_setCell_same _ _ _ q2]
  · rw [World.frozen?_setCell]; exact hf
  · rw [cropG, bytesV_append]
    exact ho.far (fun k hk => by have := (ho.lt k hk).1; simp; omega) _

theorem put_ok {w wr : World} {A2 : Option Addr} {m c2 b base : Nat} {P : PicD} {g : List UInt8} (ho : Own wr base 1 (.slice A2 m c2) m (bytesV g)) (hg : g = P.g) (hr : Res0 w wr b) (hb : b < base) :
    PutPost w 0 P (.returned (.tuple #[.agg #[.int .i64 P.a, .int .i64 P.d, .slice A2 m c2], .int .i64 0])) (((wr.setCell ⟨b, 0, none⟩ (.int .i64 P.a)).setCell ⟨b, 1, none⟩ (.int .i64 P.d)).setCell ⟨b, 2, none⟩ (.slice A2 m c2)) := by
  have hle := hr.le
  refine PutPost.ok ?_ (hr.stored _ _ _)
  have hm : m = P.g.length := by have := ho.1; rw [bytesV_length, hg] at this; omega
  subst hg
  rw [← hm]
  have hne : ∀ k, (Value.slice A2 m c2).ownBlock = some k → k ≠ b := fun k hk => by have := (ho.lt k hk).1; omega
  exact (((ho.less (base' := w.heap.size) (by omega)).far (p := ⟨b, 0, none⟩) hne _).far (p := ⟨b, 1, none⟩) hne _).far (p := ⟨b, 2, none⟩) hne _

set_option maxRecDepth 100000 in
set_option maxHeartbeats 1600000 in
theorem crop_ok (a d : Int) (A : Option Addr) (n cc : Nat) (g : List UInt8) (c f s t : Nat) (w : World) (hm : mayB a d n = true) (hnc : n ≤ cc) (hl : g.length = n) (hr : Row w A (bytesV g)) (h1 : 1 ≤ s) (h2 : 1 ≤ t) (h3 : (c : Int) + s ≤ a) (h4 : (f : Int) + t ≤ d) :
    Calls Try.prog 33 #[.agg #[.int .i64 a, .int .i64 d, .slice A n cc], .int .i64 c, .int .i64 f, .int .i64 s, .int .i64 t] w (PutPost w 0 ⟨s, t, cropG a.toNat c s g f t⟩) := by
  obtain ⟨i0, hi, hi0, hi1, hi2⟩ := info_parts info_u8
  have R0 := hide (Res0.new_at w (w.alloc (.cells #[.int .i64 a, .int .i64 d, .slice A n cc] 24)) 24 (w.heap.size + 1) (by simp) ((Below.refl _ _).alloc (Nat.le_refl _) _))
  have B0 := hide (((Box.new w (.int .i64 a) (.int .i64 d) (.slice A n cc) 24 _ rfl)).alloc (.cells #[.int .i64 0, .int .i64 0, .slice none 0 0] 24))
  have HROW := hide (hr.kept (((Below.refl _ w).alloc (Nat.le_refl _) (.cells #[.int .i64 a, .int .i64 d, .slice A n cc] 24)).alloc (by simp) (.cells #[.int .i64 0, .int .i64 0, .slice none 0 0] 24)))
  have hck : checkI a d n = 0 := by simp [checkI, hm]
  have HCK := hide hck
  obtain ⟨v1, v2, v3, v4, v5, v6, v7⟩ := mayB_bounds hm
  obtain ⟨an, rfl⟩ := Int.eq_ofNat_of_zero_le (show 0 ≤ a by omega)
  obtain ⟨dn, rfl⟩ := Int.eq_ofNat_of_zero_le (show 0 ≤ d by omega)
  have hgl : g.length = an * dn := by
    have : ((g.length : Nat) : Int) = ((an * dn : Nat) : Int) := by rw [hl, v5, Int.natCast_mul]
    omega
  have HL := hide hgl
  have HM := hide hm
  have e1 : ¬ (s : Int) < 1 := by omega
  have e2 : ¬ (t : Int) < 1 := by omega
  have e3 : ¬ (c : Int) < 0 := by omega
  have e4 : ¬ (f : Int) < 0 := by omega
  have e5 : ¬ an < s := by omega
  have e6 : ¬ dn < t := by omega
  have e7 : ¬ (an : Int) - s < c := by omega
  have e8 : ¬ (dn : Int) - t < f := by omega
  clear hm hck hr hl v5 hgl
  rw [Int.toNat_natCast]
  go_enter Try.func33, Try.ntmps33
  go_wp2_with (go_at_call 20; refine (check_any an dn A n cc _ (by omega) (by omega) (by omega) (by omega) (by omega)).mono ?_; rintro e w1 ⟨rfl, hk1⟩; rw [HCK.out]; have R1 := hide (R0.out.below hk1 (by simp)); obtain ⟨p0, p1, p2⟩ := B0.out.kept hk1; have HB1 := hide (B0.out.kept hk1); have HR1 := hide (HROW.out.kept hk1); have hz1 := R1.out.lt; have HBOX := hide (fun (W : World) (hW : Below w1.heap.size w1 W) => R1.out.below hW R1.out.lt); have hz0 := lt_of_cell p0; clear hk1)
  go_loopg [14] t (fun gh ix wr => CropRel an c s s t g f t w1 gh ix wr)
  case atStart =>
    refine ⟨0, 0, none, 0, by omega, by go_num, Box.new _ _ _ _ _ _ rfl, frozen_fresh _ _ _ _, Own.nil _ _ _, by simp, (Below.refl _ _).alloc (Nat.le_refl _) _⟩
  case round =>
    obtain ⟨k, m, A2, c2, hkg, rfl, hbx, of2, hown, hwz, hbw⟩ := hrel
    cases gk with
    | zero =>
      have hge : ¬ ((f : Int) + k) < f + t := by omega
      have HKT := hide (show k = t by omega)
      have BX := HBOX.out wr hbw
      have t0 := BX.r0
      have t1 := BX.r1
      have t2 := BX.r2
      have g0 := BX.f0
      have g1 := BX.f1
      have g2 := BX.f2
      have tl := BX.lt
      have RES := hide BX
      obtain ⟨o0, o1, o2⟩ := hbx
      have HO := hide hown
      clear BX hown hbw hkg
      go_wp2
      exact bodyPost_ret (v := .tuple #[.agg #[.int .i64 s, .int .i64 t, .slice A2 m c2], .int .i64 0]) (by simp [results, Try.results33, go_sem, t0, t1, t2]) rfl (put_ok HO.out (by rw [HKT.out]) RES.out (by omega))
    | succ gh =>
      have hlt : ((f : Int) + k) < f + t := by omega
      obtain ⟨c0, c1, c2'⟩ := HB1.out.kept hbw
      have o2 := hbx.2.2
      have HBX := hide hbx
      have HRR := hide (HR1.out.kept hbw)
      have HBW := hide hbw
      have hlp := piece_length an c s g (f + k) dn HL.out (by omega) (by omega)
      have hlt2 := cropG_length an c s dn g f HL.out (by omega) k (by omega)
      have hm2 : m = k * s := by have := hown.1; rw [bytesV_length] at this; omega
      have hmb : m + s ≤ 4194304 := by
        have h5 : (k + 1) * s ≤ dn * an := Nat.mul_le_mul (by omega) (by omega)
        have h6 : ((dn * an : Nat) : Int) ≤ 4194304 := by have := sizeB_bounds (a := an) (d := dn) (by have := HM.out; simp only [mayB, Bool.and_eq_true] at this; exact this.1); rw [Int.natCast_mul, Int.mul_comm]; exact this.2.2.2.2.2
        rw [Nat.add_mul] at h5
        omega
      have HLP := hide hlp
      have hS : wr.cell? ⟨w.heap.size, 0, none⟩ = some (.int .i64 an) ∧ wr.cell? ⟨w.heap.size, 1, none⟩ = some (.int .i64 dn) ∧ wr.cell? ⟨w.heap.size, 2, none⟩ = some (.slice A n cc) ∧ wr.cell? ⟨w1.heap.size, 2, none⟩ = some (.slice A2 m c2) := ⟨c0, c1, c2', o2⟩
      have HS := hide hS
      have q1 : IntKind.i64.wrap ((c : Int) + s) = (c : Int) + s := IntWalk.i64_in _ (by omega)
      have q2 : (0 : Int) ≤ (c : Int) + s := by omega
      have q3 : ((c : Int) + s).toNat = c + s := by omega
      have q4 : (c : Int) ≤ (c : Int) + s := by omega
      have q5 : (c : Int) + s ≤ (an : Int) := by omega
      have q6 : ¬ an = c := by omega
      have q7 : (0 : Int) ≤ (f : Int) + k := by omega
      have q8 : (f : Int) + k < dn := by omega
      have hz1' : w1.heap.size < wr.heap.size := hwz
      have Q9 : Hid (∀ W A3, Kept wr W → (∀ (W : World) (g : List Value), Row W A g → Row W A3 (List.take ((an : Int).toNat) (List.drop (((f : Int) + k).toNat * (an : Int).toNat) g))) → Row W (A3.map (·.add c)) (bytesV (((rowOf an g (f + k)).drop c).take s))) := by
        intro W A3 hW h
        have h9 := ((h W _ (HRR.out.kept hW)).drop c).take s
        rw [show ((f : Int) + k).toNat = f + k by omega, Int.toNat_natCast] at h9
        simpa only [bytesV_drop, bytesV_take, rowOf] using h9
      have SK : Hid (∀ W, Below (w1.heap.size + 1) wr W → W.cell? ⟨w.heap.size, 0, none⟩ = some (.int .i64 an) ∧ W.cell? ⟨w.heap.size, 1, none⟩ = some (.int .i64 dn) ∧ W.cell? ⟨w.heap.size, 2, none⟩ = some (.slice A n cc) ∧ W.cell? ⟨w1.heap.size, 2, none⟩ = some (.slice A2 m c2)) := by
        intro W hW
        exact ⟨(hW.cell (p := ⟨w.heap.size, 0, none⟩) (by simp; omega)).trans c0, (hW.cell (p := ⟨w.heap.size, 1, none⟩) (by simp; omega)).trans c1, (hW.cell (p := ⟨w.heap.size, 2, none⟩) (by simp; omega)).trans c2', (hW.cell (p := ⟨w1.heap.size, 2, none⟩) (by simp)).trans o2⟩
      clear hlp hlt2 hm2 hbx c0 c1 c2' o2 hS hbw h1 h2 h3 h4
      go_wp2_with fail
      refine wp_region_L (fun X => X.cell? ⟨w.heap.size, 0, none⟩ = some (.int .i64 an) ∧ X.cell? ⟨w.heap.size, 1, none⟩ = some (.int .i64 dn) ∧ X.cell? ⟨w.heap.size, 2, none⟩ = some (.slice A n cc) ∧ X.cell? ⟨w1.heap.size, 2, none⟩ = some (.slice A2 m c2)) 12 (by kernel_rfl) ?_ (fun hHeld => ?_)
      · first | exact HS.out | assumption
      refine wpAnyL_take (i := 0) (v := ?_) (some 75) rfl rfl (by kernel_rfl) (by kernel_rfl) (by kernel_rfl) (by kernel_rfl) (fun _ _ _ h => h) (Or.inl ⟨by rfl, ?_⟩) (by assumption) ?_
      rotate_left
      · intro w hSw; (try dsimp only at hSw); go_simp; (try with_reducible rfl)
      try simp only [Act.put, List.setIfInBounds_toArray, List.set_cons_zero, List.set_cons_succ]
      refine wpAnyL_take (i := 1) (v := ?_) (some 76) rfl rfl (by kernel_rfl) (by kernel_rfl) (by kernel_rfl) (by kernel_rfl) (fun _ _ _ h => h) (Or.inl ⟨by rfl, ?_⟩) (by assumption) ?_
      rotate_left
      · intro w hSw; (try dsimp only at hSw); go_simp; (try with_reducible rfl)
      try simp only [Act.put, List.setIfInBounds_toArray, List.set_cons_zero, List.set_cons_succ]
      refine wpAnyL_take (i := 2) (v := ?_) (some 77) rfl rfl (by kernel_rfl) (by kernel_rfl) (by kernel_rfl) (by kernel_rfl) (fun _ _ _ h => h) (Or.inl ⟨by rfl, ?_⟩) (by assumption) ?_
      rotate_left
      · intro w hSw; (try dsimp only at hSw); go_simp; (try with_reducible rfl)
      try simp only [Act.put, List.setIfInBounds_toArray, List.set_cons_zero, List.set_cons_succ]
      refine wpAnyL_take (i := 3) (v := ?_) (some 78) rfl rfl (by kernel_rfl) (by kernel_rfl) (by kernel_rfl) (by kernel_rfl) (fun _ _ _ h => h) (Or.inl ⟨by rfl, ?_⟩) (by assumption) ?_
      rotate_left
      · intro w hSw; (try dsimp only at hSw); go_simp; (try with_reducible rfl)
      try simp only [Act.put, List.setIfInBounds_toArray, List.set_cons_zero, List.set_cons_succ]
      refine wpAnyL_take (i := 5) (v := ?_) (some 80) rfl rfl (by kernel_rfl) (by kernel_rfl) (by kernel_rfl) (by kernel_rfl) (fun _ _ _ h => h) (Or.inl ⟨by rfl, ?_⟩) (by assumption) ?_
      rotate_left
      · intro w hSw; (try dsimp only at hSw); go_simp; (try with_reducible rfl)
      try simp only [Act.put, List.setIfInBounds_toArray, List.set_cons_zero, List.set_cons_succ]
      refine wpAnyL_take (i := 6) (v := ?_) (some 81) rfl rfl (by kernel_rfl) (by kernel_rfl) (by kernel_rfl) (by kernel_rfl) (fun _ _ _ h => h) (Or.inl ⟨by rfl, ?_⟩) (by assumption) ?_
      rotate_left
      · intro w hSw; (try dsimp only at hSw); go_simp; (try with_reducible rfl)
      try simp only [Act.put, List.setIfInBounds_toArray, List.set_cons_zero, List.set_cons_succ]
      refine wpAnyL_take (i := 7) (v := ?_) (some 82) rfl rfl (by kernel_rfl) (by kernel_rfl) (by kernel_rfl) (by kernel_rfl) (fun _ _ _ h => h) (Or.inl ⟨by rfl, ?_⟩) (by assumption) ?_
      rotate_left
      · intro w hSw; (try dsimp only at hSw); go_simp; (try with_reducible rfl)
      try simp only [Act.put, List.setIfInBounds_toArray, List.set_cons_zero, List.set_cons_succ]
      refine wpAnyL_take (i := 8) (v := ?_) (some 83) rfl rfl (by kernel_rfl) (by kernel_rfl) (by kernel_rfl) (by kernel_rfl) (fun _ _ _ h => h) (Or.inl ⟨by rfl, ?_⟩) (by assumption) ?_
      rotate_left
      · intro w hSw; (try dsimp only at hSw); go_simp; (try with_reducible rfl)
      try simp only [Act.put, List.setIfInBounds_toArray, List.set_cons_zero, List.set_cons_succ]
      refine wpAnyL_one (i := 4) (by kernel_rfl) rfl (fun K hK => ?_)
      go_simp
      (refine (row_any an dn A n cc _ _ HM.out q7 q8 hnc).mono ?_; rintro e w3 ⟨⟨A3, rfl, hrow3⟩, hk3⟩; have hk3' : Kept wr w3 := ((Below.refl _ wr).drew).trans hk3; have hS3 : w3.cell? ⟨w.heap.size, 0, none⟩ = some (.int .i64 an) ∧ w3.cell? ⟨w.heap.size, 1, none⟩ = some (.int .i64 dn) ∧ w3.cell? ⟨w.heap.size, 2, none⟩ = some (.slice A n cc) ∧ w3.cell? ⟨w1.heap.size, 2, none⟩ = some (.slice A2 m c2) := ⟨(hk3'.cells _ _ (lt_of_cell HS.out.1)).trans HS.out.1, (hk3'.cells _ _ (lt_of_cell HS.out.2.1)).trans HS.out.2.1, (hk3'.cells _ _ (lt_of_cell HS.out.2.2.1)).trans HS.out.2.2.1, (hk3'.cells _ _ (lt_of_cell HS.out.2.2.2)).trans HS.out.2.2.2⟩)
      refine hK.out _ _ ?_ (fun hHeld => ?_)
      · first | exact HS.out | assumption
      clear hK K
      try simp only [Act.put, List.setIfInBounds_toArray, List.set_cons_zero, List.set_cons_succ]
      refine wpAnyL_one (i := 9) (by kernel_rfl) rfl (fun K hK => ?_)
      go_simp
      refine hK.out _ _ ?_ (fun hHeld => ?_)
      · first | exact HS.out | assumption
      clear hK K
      try simp only [Act.put, List.setIfInBounds_toArray, List.set_cons_zero, List.set_cons_succ]
      refine wpAnyL_one (i := 10) (by kernel_rfl) rfl (fun K hK => ?_)
      (refine step_append_row _ rfl _ _ 22 rfl (w1.heap.size + 1) 5 i0 (.int .u8 0) 1 1 Try.underlying22 hi hi0 hi1 hi2 rfl (by decide) (.slice A2 m c2) m _ rfl (hown.kept hk3') (A3.map (·.add c)) s (an - c) (bytesV (((rowOf an g (f + k)).drop c).take s)) rfl (by rw [bytesV_length, HLP.out, Nat.mul_one]) (Q9.out w3 A3 hk3' hrow3) (bytesV_one _) (by unfold maxLen; omega) (by omega) (by have := hk3'.size; omega) ?_; intro v5 w5 hown5 hg5 hat5; have hb5 : Below (w1.heap.size + 1) wr w5 := below_append (hk3'.mono (by omega)) (hown.kept hk3') (Nat.le_refl _) (by have := hk3'.size; omega) hg5; obtain ⟨A5, c5, rfl, -, -, -, -, -⟩ := hown5.form; have hS5 := SK.out w5 hb5; have ef := (hb5.frozen (p := ⟨w1.heap.size, 2, none⟩) (by simp)).trans of2)
      refine hK.out _ _ ?_ (fun hHeld => ?_)
      · first | exact HS.out | assumption
      clear hK K
      try simp only [Act.put, List.setIfInBounds_toArray]
      refine wpAnyL_one (i := 11) (by kernel_rfl) rfl (fun K hK => ?_)
      go_simp
      refine hK.out _ _ ?_ (fun hHeld => ?_)
      · first | exact HS.out | assumption
      clear hK K
      try simp only [Act.put, List.setIfInBounds_toArray, List.set_cons_zero, List.set_cons_succ]
      refine wpAnyL_end (by kernel_rfl) rfl (fun K hK => ?_)
      go_simp
      refine hK.out _ _ ?_
      clear hK K
      try simp only [Act.put, List.setIfInBounds_toArray, List.set_cons_zero, List.set_cons_succ]
      refine wpAnyL_done (by kernel_rfl) ?_ _
      have HO5 := hide hown5
      have HB5 := hide hb5
      have ef5 := hide ef
      clear hown5 hg5 hat5 hb5 ef hS5 hk3 hk3' hrow3 hS3
      go_wp2
      go_roundg gh
      case measure => omega
      case rel => exact rel_crop HBX.out HBW.out HB5.out HO5.out ef5.out hkg hz1'
theorem crop_any (p : PicD) (A : Option Addr) (n cc : Nat) (c f s t : Int) (w : World) (hp : PicAt w p A n cc) (h0 : -9223372036854775808 ≤ s) (h0' : s ≤ 9223372036854775807) (h1 : -9223372036854775808 ≤ t) (h1' : t ≤ 9223372036854775807) :
    Calls Try.prog 33 #[.agg #[.int .i64 p.a, .int .i64 p.d, .slice A n cc], .int .i64 c, .int .i64 f, .int .i64 s, .int .i64 t] w (PutPost w (cropE p c f s t) (cropP p c f s t)) := by
  have hl := hp.len
  cases hm : mayB p.a p.d n with
  | false =>
    rw [show cropE p c f s t = 290 by simp [cropE, PicD.may, hl, hm]]
    exact crop_bad p.a p.d A n cc c f s t w _ hp.a0 hp.a1 hp.d0 hp.d1 hp.max hm
  | true =>
    cases hc : cutB p.a p.d c f s t with
    | false =>
      rw [show cropE p c f s t = 2 by simp [cropE, PicD.may, hl, hm, hc]]
      exact crop_arg p.a p.d A n cc c f s t w _ hm h0 h0' h1 h1' hc
    | true =>
      rw [show cropE p c f s t = 0 by simp [cropE, PicD.may, hl, hm, hc]]
      obtain ⟨k1, k2, k3, k4, k5, k6, k7, k8⟩ := (cutB_iff _ _ _ _ _ _).1 hc
      obtain ⟨c, rfl⟩ := Int.eq_ofNat_of_zero_le k3
      obtain ⟨f, rfl⟩ := Int.eq_ofNat_of_zero_le k4
      obtain ⟨s, rfl⟩ := Int.eq_ofNat_of_zero_le (show 0 ≤ s by omega)
      obtain ⟨t, rfl⟩ := Int.eq_ofNat_of_zero_le (show 0 ≤ t by omega)
      exact crop_ok p.a p.d A n cc p.g c f s t w hm hp.cap hl hp.row (by omega) (by omega) (by omega) (by omega)
end Go.Proofs.Ytbhgcbgaadnfpaa
