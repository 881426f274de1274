/- picture.Count, walked. -/
import Derived.Test.YtbhgcbgaadnfpaaBackL
import Derived.Deep.WholeRow
import Derived.DeepKeys
namespace Go.Proofs.Ytbhgcbgaadnfpaa
open Go.RowKit

/-- How often a grey is there. -/
def cnt (g : List UInt8) (i : Nat) : Nat := (g.filter fun x => x.toNat == i).length
def cntV (g : List UInt8) : Array Value := ((List.range 256).map fun i => Value.int .i64 (cnt g i)).toArray
theorem cntV_size (g : List UInt8) : (cntV g).size = 256 := by simp [cntV]
theorem cntV_at (g : List UInt8) (i : Nat) (h : i < 256) : (cntV g)[i]? = some (.int .i64 (cnt g i)) := by simp [cntV, h]
theorem cnt_le (g : List UInt8) (i : Nat) : cnt g i ≤ g.length := List.length_filter_le _ _
theorem cnt_snoc (g : List UInt8) (x : UInt8) (i : Nat) : cnt (g ++ [x]) i = cnt g i + if x.toNat = i then 1 else 0 := by
  unfold cnt
  rw [List.filter_append]
  by_cases h : x.toNat = i <;> simp [h]
theorem cntV_snoc (g : List UInt8) (x : UInt8) : (cntV g).setIfInBounds x.toNat (.int .i64 ((cnt g x.toNat : Nat) + 1)) = cntV (g ++ [x]) := by
  apply Array.ext_getElem?
  intro i
  rw [Array.getElem?_setIfInBounds]
  by_cases hi : i < 256
  · rw [cntV_at _ _ hi, cntV_at _ _ hi, cnt_snoc]
    by_cases h : x.toNat = i
    · subst h; rw [if_pos rfl, if_pos (by rw [cntV_size]; exact hi), if_pos rfl]; simp
    · rw [if_neg h, if_neg h, Nat.add_zero]
  · have h1 : (cntV g)[i]? = none := Array.getElem?_eq_none (by rw [cntV_size]; omega)
    have h2 : (cntV (g ++ [x]))[i]? = none := Array.getElem?_eq_none (by rw [cntV_size]; omega)
    rw [h1, h2]
    by_cases h : x.toNat = i
    · rw [if_pos h, if_neg (by rw [cntV_size]; omega)]
    · rw [if_neg h]
theorem cntV_one (g : List UInt8) : (cntV g).all (·.oneCell') = true := by
  rw [Array.all_eq_true_iff_forall_mem]
  intro v hv
  simp [cntV] at hv
  obtain ⟨i, -, rfl⟩ := hv
  rfl
theorem info51 : (Try.prog.info? 51).map (·.size) = some 256 := by kernel_rfl
theorem zero51 : Try.zeroCells51 = cntV [] := by kernel_rfl

theorem eq51_items (d : Nat) (w : World) (g : List UInt8) : ∀ is : List Nat, (∀ i ∈ is, i < 256) → (Op.eqItems (d + 1) 3 (Try.prog.cellsOf 3) (cntV g) (cntV g) is).run Try.prog w = .ok true w
  | [], _ => by simp [Op.eqItems]
  | i :: is, h => by
    have hc : Try.prog.cellsOf 3 = 1 := by kernel_rfl
    have hp : Try.prog.plainKey 3 = true := by kernel_rfl
    have h1 := run_part_plain (P := Try.prog) (w := w) hp (xs := cntV g) (off := i) (cntV_at g i (h i (by simp)))
    have h2 := run_equalIn_int (P := Try.prog) (w := w) d 3 .i64 .i64 (cnt g i) (cnt g i) Try.underlying3
    have ih := eq51_items d w g is (fun j hj => h j (by simp [hj]))
    rw [hc] at ih ⊢
    simp only [Op.eqItems, Nat.mul_one, Sem.run_bind, h1, h2, Result.andThen_ok]
    simpa using ih
theorem eq51 (g : List UInt8) (w : World) : (Op.equalIn 10000 51 (.agg (cntV g)) (.agg (cntV g))).run Try.prog w = .ok true w := by
  obtain ⟨i, hi, -, -, -⟩ := info_parts (show (Try.prog.info? 3).map (fun i => (i.zero, i.size, i.bytes)) = some (some (.int .i64 0), 1, 8) by kernel_rfl)
  rw [show (10000 : Nat) = 9999 + 1 from rfl, run_equalIn_array w 9999 (cntV g) (cntV g) Try.underlying51 hi]
  exact eq51_items 9998 w g _ (fun i hi => by simpa using hi)

set_option maxRecDepth 100000 in
set_option maxHeartbeats 400000 in
theorem count_bad (a d : Int) (A : Option Addr) (n c : Nat) (w : World) (ha : -9223372036854775808 ≤ a) (ha' : a ≤ 9223372036854775807) (hd : -9223372036854775808 ≤ d) (hd' : d ≤ 9223372036854775807) (hn : n ≤ 9223372036854775807) (hm : mayB a d n = false) :
    Calls Try.prog 27 #[.agg #[.int .i64 a, .int .i64 d, .slice A n c]] w fun e w' => e = .returned (.tuple #[.agg (cntV []), .int .i64 290]) ∧ Kept w w' := by
  have CK : Hid (∀ W, Calls Try.prog 20 #[.agg #[.int .i64 a, .int .i64 d, .slice A n c]] W fun e w' => e = .returned (.int .i64 290) ∧ Kept W w') := fun W => by
    have := check_any a d A n c W ha ha' hd hd' hn
    rwa [show checkI a d n = 290 by simp [checkI, hm]] at this
  obtain ⟨Z, hZ⟩ : ∃ Z, Z = cntV [] := ⟨_, rfl⟩
  have z1 : Z.size = 256 := by rw [hZ, cntV_size]
  have z2 : Z.all (·.oneCell') = true := by rw [hZ, cntV_one]
  have hz51 : Try.zeroCells51 = Z := by rw [hZ, zero51]
  rw [← hZ]
  have Z1 := hide z1
  have Z2 := hide z2
  clear ha ha' hd hd' hn hm z1 z2 hZ
  obtain ⟨W0, hW0⟩ : ∃ W0, W0 = (w.alloc (.cells #[.int .i64 a, .int .i64 d, .slice A n c] 24)).alloc (.cells Z 51) := ⟨_, rfl⟩
  go_enter Try.func27, Try.ntmps27
  go_wp2_with fail
  rw [← hW0]
  have hb : W0.heap[w.heap.size + 1]? = some (.cells Z 51 (0, 0)) := by rw [hW0]; have := heap_alloc_last (w.alloc (.cells #[.int .i64 a, .int .i64 d, .slice A n c] 24)) (.cells Z 51); rwa [World.size_alloc] at this
  have K0 : Hid (Kept w W0) := by rw [hW0]; exact ((Below.refl _ _).alloc (Nat.le_refl _) _).alloc (by simp) _
  have hlt : w.heap.size + 1 < W0.heap.size := by rw [hW0]; simp
  clear hW0 hz51
  refine (CK.out _).mono ?_
  rintro e w1 ⟨rfl, hk1⟩
  have hb1 : w1.heap[w.heap.size + 1]? = some (.cells Z 51 (0, 0)) := (hk1.block _ hlt).trans hb
  have K1 : Hid (Kept w w1) := K0.out.trans (hk1.mono K0.out.size)
  have HB1 := hide hb1
  clear hk1 hb1 hb hlt
  have hld : (loadVar 51 ⟨w.heap.size + 1, 0, none⟩).run Try.prog w1 = .ok (.agg Z) w1 := run_loadVar_row w1 _ 51 _ Z (0, 0) _ HB1.out Try.underlying51 rfl (by rw [info51, Z1.out])
  have HLD := hide hld
  clear hld
  go_wp2_with (first | (refine wpList_load_row rfl 51 _ rfl (w.heap.size + 1) rfl 51 Z (0, 0) _ HB1.out Try.underlying51 rfl (by rw [info51, Z1.out]) ?_) | (refine wpList_store_row rfl 51 _ _ rfl (w.heap.size + 1) Z rfl rfl 51 Z HB1.out (by rw [info51, Z1.out]) rfl Z2.out ?_; rw [setRow_self _ _ _ _ _ HB1.out]))
  exact bodyPost_ret (v := .tuple #[.agg Z, .int .i64 290]) (by simp [results, Try.results27, asAddr, HLD.out]) rfl ⟨rfl, K1.out⟩

set_option maxRecDepth 100000 in
set_option maxHeartbeats 800000 in
theorem count_good (a d : Int) (A : Option Addr) (n c : Nat) (g : List UInt8) (w : World) (hm : mayB a d n = true) (_ : n ≤ c) (hl : g.length = n) (hr : Row w A (bytesV g)) :
    Calls Try.prog 27 #[.agg #[.int .i64 a, .int .i64 d, .slice A n c]] w fun e w' => e = .returned (.tuple #[.agg (cntV g), .int .i64 0]) ∧ Kept w w' := by
  obtain ⟨y1, y2, y3, y4, y5, y6, y7⟩ := mayB_bounds hm
  have CK : Hid (∀ W, Calls Try.prog 20 #[.agg #[.int .i64 a, .int .i64 d, .slice A n c]] W fun e w' => e = .returned (.int .i64 0) ∧ Kept W w') := fun W => by
    have := check_any a d A n c W (by omega) (by omega) (by omega) (by omega) (by omega)
    rwa [show checkI a d n = 0 by simp [checkI, hm]] at this
  obtain ⟨b, off, rfl, hbl⟩ : ∃ b off, A = some ⟨b, off, none⟩ ∧ b < w.heap.size := by
    rcases hr with h | ⟨b, off, hA, hc⟩
    · have : (bytesV g).length = 0 := by rw [h]; rfl
      rw [bytesV_length] at this; omega
    · obtain ⟨x, hx⟩ : ∃ x, (bytesV g)[0]? = some x := ⟨_, List.getElem?_eq_getElem (by rw [bytesV_length]; omega)⟩
      exact ⟨b, off, hA, lt_of_cell (hc 0 x hx)⟩
  have HR := hide hr
  have HL := hide hl
  have hz51 : Try.zeroCells51 = cntV [] := zero51
  obtain ⟨Z, hZ⟩ : ∃ Z, Z = cntV [] := ⟨_, rfl⟩
  rw [← hZ] at hz51
  have HZ := hide hZ
  clear hm hr hl y5 hZ
  obtain ⟨W0, hW0⟩ : ∃ W0, W0 = (w.alloc (.cells #[.int .i64 a, .int .i64 d, .slice (some ⟨b, off, none⟩) n c] 24)).alloc (.cells Z 51) := ⟨_, rfl⟩
  have K0 : Hid (Kept w W0) := by rw [hW0]; exact ((Below.refl _ _).alloc (Nat.le_refl _) _).alloc (by simp) _
  have P0 : Hid (∀ W, Below (w.heap.size + 1) W0 W → Box W w.heap.size (.int .i64 a) (.int .i64 d) (.slice (some ⟨b, off, none⟩) n c)) := by
    intro W hW
    have h0 : Box W0 w.heap.size (.int .i64 a) (.int .i64 d) (.slice (some ⟨b, off, none⟩) n c) := by rw [hW0]; exact (Box.new w _ _ _ 24 _ rfl).alloc _
    exact ⟨(hW.cell (p := ⟨w.heap.size, 0, none⟩) (by simp)).trans h0.1, (hW.cell (p := ⟨w.heap.size, 1, none⟩) (by simp)).trans h0.2.1, (hW.cell (p := ⟨w.heap.size, 2, none⟩) (by simp)).trans h0.2.2⟩
  have B0 : Hid (W0.heap[w.heap.size + 1]? = some (.cells Z 51 (0, 0)) ∧ w.heap.size + 1 < W0.heap.size) := by
    rw [hW0]
    have := heap_alloc_last (w.alloc (.cells #[.int .i64 a, .int .i64 d, .slice (some ⟨b, off, none⟩) n c] 24)) (.cells Z 51)
    rw [World.size_alloc] at this
    exact ⟨this, by simp⟩
  obtain ⟨p0, p1, p2⟩ := P0.out W0 (Below.refl _ _)
  go_enter Try.func27, Try.ntmps27
  go_wp2_with fail
  rw [← hW0]
  clear hW0 hz51
  refine (CK.out _).mono ?_
  rintro e w1 ⟨rfl, hk1⟩
  have hb1 : w1.heap[w.heap.size + 1]? = some (.cells (cntV []) 51 (0, 0)) := by rw [← HZ.out]; exact (hk1.block _ B0.out.2).trans B0.out.1
  have K1 : Hid (Below (w.heap.size + 1) W0 w1) := hk1.mono (by have := B0.out.2; omega)
  have HB1 := hide hb1
  have hlt1 : w.heap.size + 1 < w1.heap.size := by have := hk1.size; have := B0.out.2; omega
  clear hk1 hb1 p0 p1 p2
  obtain ⟨p0, p1, p2⟩ := P0.out w1 K1.out
  go_wp2_with fail
  go_loopg [16] n (fun gh ix wr => ∃ k : Nat, k + gh = n ∧ ix = .int .i64 k ∧ Hid (wr.heap[w.heap.size + 1]? = some (.cells (cntV (g.take k)) 51 (0, 0))) ∧ Below (w.heap.size + 1) W0 wr)
  case atStart => exact ⟨0, by omega, rfl, by simpa using HB1, K1.out⟩
  case round =>
    obtain ⟨k, hkg, rfl, HBK, hkw⟩ := hrel
    have HKW := hide hkw
    cases gk with
    | zero =>
      have hge : ¬ (k : Int) < (n : Int) := by omega
      have hgk : g.take k = g := List.take_of_length_le (by have := HL.out; omega)
      rw [hgk] at HBK
      obtain ⟨V, hV⟩ : ∃ V, V = cntV g := ⟨_, rfl⟩
      rw [← hV] at HBK
      have V1 : Hid (V.size = 256) := by show _ = _; rw [hV, cntV_size]
      have V2 : Hid (V.all (·.oneCell') = true) := by show _ = _; rw [hV, cntV_one]
      have HV := hide hV
      have hld : (loadVar 51 ⟨w.heap.size + 1, 0, none⟩).run Try.prog wr = .ok (.agg V) wr := run_loadVar_row wr _ 51 _ V (0, 0) _ HBK.out Try.underlying51 rfl (by rw [info51, V1.out])
      have HLD := hide hld
      clear hld hV hgk hkw
      go_wp2_with (first | (refine wpList_load_row rfl 51 _ rfl (w.heap.size + 1) rfl 51 V (0, 0) _ HBK.out Try.underlying51 rfl (by rw [info51, V1.out]) ?_) | (refine wpList_store_row rfl 51 _ _ rfl (w.heap.size + 1) V rfl rfl 51 V HBK.out (by rw [info51, V1.out]) rfl V2.out ?_; rw [setRow_self _ _ _ _ _ HBK.out]))
      exact bodyPost_ret (v := .tuple #[.agg V, .int .i64 0]) (by simp [results, Try.results27, asAddr, HLD.out]) rfl ⟨by rw [HV.out], K0.out.trans (HKW.out.mono (Nat.le_succ _))⟩
    | succ gk =>
      have hlt : (k : Int) < (n : Int) := by omega
      obtain ⟨x, hx⟩ : ∃ x, g[k]? = some x := ⟨_, List.getElem?_eq_getElem (by have := HL.out; omega)⟩
      have hcell : wr.cell? ⟨b, off + k, none⟩ = some (.int .u8 x.toNat) := by
        have h1 := (HR.out.kept (K0.out.trans (HKW.out.mono (Nat.le_succ _))))
        rcases h1 with h1 | ⟨b', off', hA, hc⟩
        · have : (bytesV g).length = 0 := by rw [h1]; rfl
          rw [bytesV_length] at this; have := HL.out; omega
        · injection hA with hA; injection hA with e1 e2; subst e1; subst e2
          exact hc k _ (by simp [bytesV, hx])
      have hx0 : (0 : Int) ≤ (x.toNat : Int) := by omega
      have hx1 : (x.toNat : Int) < 256 := by have := x.toNat_lt; omega
      obtain ⟨m, hm⟩ : ∃ m, m = cnt (g.take k) x.toNat := ⟨_, rfl⟩
      have hm1 : (m : Int) ≤ 4194304 := by have := cnt_le (g.take k) x.toNat; have := List.length_take_le k g; omega
      have hc2 : wr.cell? ⟨w.heap.size + 1, x.toNat, none⟩ = some (.int .i64 m) := by
        rw [cell_of_row _ _ _ _ _ _ HBK.out, cntV_at _ _ (by omega), hm]
      have hf2 : wr.frozen? ⟨w.heap.size + 1, x.toNat, none⟩ = false := frozen_of_row _ _ _ _ _ HBK.out
      have HB2 : Hid ((wr.setCell ⟨w.heap.size + 1, x.toNat, none⟩ (.int .i64 ((m : Int) + 1))).heap[w.heap.size + 1]? = some (.cells (cntV (g.take (k + 1))) 51 (0, 0))) := by
        show _ = _
        rw [heap_setCell_same _ _ _ _ _ _ HBK.out, hm, cntV_snoc, List.take_add_one, hx]
        rfl
      have HK2 : Hid (Below (w.heap.size + 1) W0 (wr.setCell ⟨w.heap.size + 1, x.toNat, none⟩ (.int .i64 ((m : Int) + 1)))) := HKW.out.setCell (Nat.le_refl _) _
      clear hm hx hkw
      go_wp2_with fail
      go_roundg gk
      case measure => omega
      case rel => exact ⟨k + 1, by omega, by go_num, HB2, HK2.out⟩
theorem count_any (a d : Int) (A : Option Addr) (n c : Nat) (g : List UInt8) (w : World) (ha : -9223372036854775808 ≤ a) (ha' : a ≤ 9223372036854775807) (hd : -9223372036854775808 ≤ d) (hd' : d ≤ 9223372036854775807) (hn : n ≤ 9223372036854775807) (hnc : n ≤ c) (hl : g.length = n) (hr : Row w A (bytesV g)) :
    Calls Try.prog 27 #[.agg #[.int .i64 a, .int .i64 d, .slice A n c]] w fun e w' => e = .returned (.tuple #[.agg (cntV (if mayB a d n then g else [])), .int .i64 (checkI a d n)]) ∧ Kept w w' := by
  cases hm : mayB a d n with
  | true => simpa [checkI, hm] using count_good a d A n c g w hm hnc hl hr
  | false => simpa [checkI, hm] using count_bad a d A n c w ha ha' hd hd' hn hm
end Go.Proofs.Ytbhgcbgaadnfpaa
