/- picture.Read, walked: the picture whose bytes these are, or the error. -/
import Derived.Test.YtbhgcbgaadnfpaaPicW
import Derived.Test.YtbhgcbgaadnfpaaPicT
import Derived.Lib.ConvBytes
import Derived.Lib.Strings
import Derived.StillTailTactics
namespace Go.Proofs.Ytbhgcbgaadnfpaa
open Go.RowKit

set_option maxRecDepth 100000 in
set_option maxHeartbeats 400000 in
theorem number_any (k : Int) (s : ByteArray) (b : Nat) (w : World) (hk : 0 ≤ k) (hk8 : k ≤ 8) (hs : 12 ≤ s.size) (hsm : s.size ≤ maxLen) (hc : w.cell? ⟨b, 0, none⟩ = some (.string s)) :
    Calls Try.prog 48 #[.int .i64 k, .pointer (some ⟨b, 0, none⟩)] w fun e w' => e = .returned (.int .i64 (numAt s.data.toList k.toNat)) ∧ Kept w w' := by
  have hl : (s.data.toList.drop k.toNat).take 4 = (s.data.toList.drop k.toNat).take 4 := rfl
  obtain ⟨t, ht⟩ : ∃ t, t = s.extract k.toNat (k + 4).toNat := ⟨_, rfl⟩
  have htl : t.data.toList = (s.data.toList.drop k.toNat).take 4 := by
    rw [ht, Lib.extract_data]; congr 1; omega
  have hts : t.size = 4 := by
    have h1 := congrArg List.length htl
    simp at h1
    omega
  unfold maxLen at hsm
  have hs' : (s.size : Int) ≤ 9223372036854775807 := by omega
  have HT := hide ht
  have HTL := hide htl
  have HTS := hide hts
  clear hl htl hts
  replace ht := ht.symm
  go_enter Try.func48, Try.ntmps48
  go_wp2_with ((with_reducible show wpList _ _ _ _ _ _); refine wpList_conv_bytes _ rfl 9 22 5 _ rfl Try.underlying9 Try.underlying22 Try.underlying5 t rfl ?_ ?_)
  · rw [HTS.out]; simp [maxLen]
  · intro A c w1 hown hk1
    rw [HTL.out, HTS.out] at hown
    rw [HTS.out]
    clear ht
    obtain ⟨q, hq⟩ : ∃ q, q = (s.data.toList.drop k.toNat).take 4 := ⟨_, rfl⟩
    have hrow : Row w1 A (bytesV q) := by rw [hq]; exact hown.row
    have hql : q.length = 4 := by rw [hq]; have := hown.1; simpa using this
    have hnum : numAt s.data.toList k.toNat = beVal q := by rw [hq]; rfl
    have HQ := hide (And.intro hq (And.intro hql hnum))
    clear hq hql hnum hown HT HTL HTS
    go_wp2
    go_loop [4, 14] (fun n i => ∃ j : Nat, j ≤ 4 ∧ i = .int .i64 j ∧ n = .int .i64 (beVal (q.take j))) (fun _ i => 4 - (intOf i).toNat)
    case atStart => exact ⟨0, by omega, rfl, rfl⟩
    case round =>
      obtain ⟨j, hj, rfl, rfl⟩ := hrel
      by_cases hlt : j < 4
      · have hji : (j : Int) < 4 := by omega
        obtain ⟨bb, oo, rfl, hcj⟩ := hrow.at_ (k := j) (by rw [bytesV_length, HQ.out.2.1]; exact hlt)
        have hqj : j < q.length := by rw [HQ.out.2.1]; exact hlt
        obtain ⟨y, hy⟩ : ∃ y, q[j]? = some y := ⟨_, List.getElem?_eq_getElem hqj⟩
        have hcell : w1.cell? ⟨bb, oo + j, none⟩ = some (.int .u8 (y.toNat : Int)) := by
          rw [hcj]
          have h1 := bytesV_get q j hqj
          have h2 : q[j] = y := by rw [List.getElem?_eq_getElem hqj] at hy; exact Option.some.inj hy
          rw [List.getElem?_eq_getElem (by rw [bytesV_length]; exact hqj), h2] at h1
          exact h1
        have hbv : beVal (q.take (j + 1)) = beVal (q.take j) * 256 + y.toNat := by
          rw [List.take_add_one, hy]; exact beVal_snoc _ _
        have hbl : beVal (q.take j) < 16777216 := by
          refine Nat.lt_of_lt_of_le (beVal_lt _) ?_
          have : (q.take j).length ≤ 3 := by simp; omega
          exact Nat.pow_le_pow_right (by omega) this
        have hyl := y.toNat_lt
        have hor := or_low (beVal (q.take j)) y.toNat (by omega) (by omega) (by omega) (by omega)
        have HBV := hide hbv
        clear hy hcj hbv
        obtain ⟨N, hN⟩ : ∃ N, N = beVal (q.take j) := ⟨_, rfl⟩
        rw [← hN] at hbl hor HBV ⊢
        have HN := hide hN
        clear hN
        go_wp2
        go_round
        case rel => exact ⟨j + 1, by omega, by go_num, by rw [HBV.out]; go_num⟩
        case measure => simp [intOf]; omega
      · have hje : j = 4 := by omega
        subst hje
        have hge : ¬ ((4 : Int) < 4) := by omega
        go_wp2
        go_ret
        refine ⟨int_ret ?_, hk1⟩
        rw [HQ.out.2.2, List.take_of_length_le (by rw [HQ.out.2.1]; exact Nat.le_refl _)]

theorem get_data (s : ByteArray) (k : Nat) (h : k < s.size) : s.data.toList[k]? = some s[k] := by
  obtain ⟨⟨l⟩⟩ := s
  simp [ByteArray.getElem_eq_getElem_data]

/-- What a reader leaves: the picture, in memory of its own; or nothing and the error. -/
def ReadPost (w : World) (r : Option (Nat × Nat × List UInt8)) (e : Ending) (w' : World) : Prop :=
  match r with
  | none => e = .returned (.tuple #[.agg #[.int .i64 0, .int .i64 0, .slice none 0 0], .int .i64 292]) ∧ Kept w w'
  | some (a, d, g) => ∃ v, e = .returned (.tuple #[.agg #[.int .i64 a, .int .i64 d, v], .int .i64 0]) ∧ Own w' w.heap.size 1 v g.length (bytesV g) ∧ Kept w w'

theorem head_eq (s : ByteArray) (h : 12 ≤ s.size) : ((s.extract 0 4).toList == [70, 76, 80, 1]) = headOk s.data.toList := by
  rw [Lib.toList_data, Lib.extract_data]
  simp [headOk, h]

set_option maxRecDepth 100000 in
set_option maxHeartbeats 400000 in
theorem read_short (s : ByteArray) (w : World) (hs : s.size < 12) : Calls Try.prog 15 #[.string s] w (ReadPost w (readS s.data.toList)) := by
  rw [readS_head (by simp [headOk]; omega)]
  have h1 : (s.size : Int) < 12 := by omega
  go_enter Try.func15, Try.ntmps15
  go_wp2
  exact bodyPost_ret (v := .tuple #[.agg #[.int .i64 0, .int .i64 0, .slice none 0 0], .int .i64 292]) (by simp [results, Try.results15, go_sem]) rfl ⟨rfl, ((Below.refl _ _).alloc (Nat.le_refl _) _).alloc (by simp) _⟩
set_option maxRecDepth 100000 in
set_option maxHeartbeats 400000 in
theorem read_head (s : ByteArray) (w : World) (hs : 12 ≤ s.size) (hp : headOk s.data.toList = false) : Calls Try.prog 15 #[.string s] w (ReadPost w (readS s.data.toList)) := by
  rw [readS_head hp]
  have h1 : ¬ (s.size : Int) < 12 := by omega
  have h4 : (4 : Int) ≤ (s.size : Int) := by omega
  have hh := head_eq s hs
  rw [hp] at hh
  clear hp
  go_enter Try.func15, Try.ntmps15
  go_wp2
  exact bodyPost_ret (v := .tuple #[.agg #[.int .i64 0, .int .i64 0, .slice none 0 0], .int .i64 292]) (by simp [results, Try.results15, go_sem]) rfl ⟨rfl, ((Below.refl _ _).alloc (Nat.le_refl _) _).alloc (by simp) _⟩

theorem numAt_lt (l : List UInt8) (k : Nat) : numAt l k < 4294967296 := by
  refine Nat.lt_of_lt_of_le (beVal_lt _) ?_
  have : ((l.drop k).take 4).length ≤ 4 := by simp; omega
  exact Nat.pow_le_pow_right (by omega) this

/-- The two first blocks of a reader's call: the bytes, and the result that is still nothing. -/
structure Base (w W : World) (s : ByteArray) : Prop where
  str : W.cell? ⟨w.heap.size, 0, none⟩ = some (.string s)
  r0 : W.cell? ⟨w.heap.size + 1, 0, none⟩ = some (.int .i64 0)
  r1 : W.cell? ⟨w.heap.size + 1, 1, none⟩ = some (.int .i64 0)
  r2 : W.cell? ⟨w.heap.size + 1, 2, none⟩ = some (.slice none 0 0)
  f0 : W.frozen? ⟨w.heap.size + 1, 0, none⟩ = false
  f1 : W.frozen? ⟨w.heap.size + 1, 1, none⟩ = false
  f2 : W.frozen? ⟨w.heap.size + 1, 2, none⟩ = false
  lt : w.heap.size + 1 < W.heap.size
  kept : Kept w W
theorem Base.below {w W W' : World} {s : ByteArray} {B : Nat} (h : Base w W s) (hb : Below B W W') (hB : w.heap.size + 1 < B) : Base w W' s := by
  have c : ∀ b o, b ≤ w.heap.size + 1 → W'.cell? ⟨b, o, none⟩ = W.cell? ⟨b, o, none⟩ := fun b o hl => hb.cell (p := ⟨b, o, none⟩) (by simp; omega)
  have f : ∀ b o, b ≤ w.heap.size + 1 → W'.frozen? ⟨b, o, none⟩ = W.frozen? ⟨b, o, none⟩ := fun b o hl => hb.frozen (p := ⟨b, o, none⟩) (by simp; omega)
  exact ⟨(c _ _ (by omega)).trans h.str, (c _ _ (by omega)).trans h.r0, (c _ _ (by omega)).trans h.r1, (c _ _ (by omega)).trans h.r2, (f _ _ (by omega)).trans h.f0, (f _ _ (by omega)).trans h.f1, (f _ _ (by omega)).trans h.f2,
    Nat.lt_of_lt_of_le h.lt hb.size, h.kept.trans (hb.mono (by omega))⟩
theorem base_start (w : World) (s : ByteArray) (t r : TypeId) : Base w ((w.alloc (.cells #[.string s] t)).alloc (.cells #[.int .i64 0, .int .i64 0, .slice none 0 0] r)) s := by
  have hh : ((w.alloc (.cells #[.string s] t)).alloc (.cells #[.int .i64 0, .int .i64 0, .slice none 0 0] r)).heap[w.heap.size + 1]? = some (.cells #[.int .i64 0, .int .i64 0, .slice none 0 0] r) := by
    show ((w.heap.push _).push _)[w.heap.size + 1]? = _
    rw [Array.getElem?_push, if_pos (by simp)]
  refine ⟨by simp, by simp, by simp, by simp, ?_, ?_, ?_, by simp, ((Below.refl _ _).alloc (Nat.le_refl _) _).alloc (by simp) _⟩ <;> (simp only [World.frozen?, hh]; rfl)

theorem err_kept {w W : World} (hk : Kept w W) (hl : w.heap.size + 1 < W.heap.size) (o : Obj) {u0 u1 u2 : Value} :
    Kept w ((((W.setCell ⟨w.heap.size + 1, 0, none⟩ u0).setCell ⟨w.heap.size + 1, 1, none⟩ u1).setCell ⟨w.heap.size + 1, 2, none⟩ u2).alloc o) :=
  (((hk.setCell (by simp) _).setCell (by simp) _).setCell (by simp) _).alloc (by simp [World.setCell]; omega) _
theorem err_kept0 {w W : World} (hk : Kept w W) {u0 u1 u2 : Value} :
    Kept w (((W.setCell ⟨w.heap.size + 1, 0, none⟩ u0).setCell ⟨w.heap.size + 1, 1, none⟩ u1).setCell ⟨w.heap.size + 1, 2, none⟩ u2) :=
  ((hk.setCell (by simp) _).setCell (by simp) _).setCell (by simp) _

set_option maxRecDepth 100000 in
set_option maxHeartbeats 800000 in
theorem read_body (s : ByteArray) (w : World) (hs : 12 ≤ s.size) (hsm : s.size ≤ maxLen) (hp : headOk s.data.toList = true) : Calls Try.prog 15 #[.string s] w (ReadPost w (readS s.data.toList)) := by
  have h1 : ¬ (s.size : Int) < 12 := by omega
  have h4 : (4 : Int) ≤ (s.size : Int) := by omega
  have hh := head_eq s hs
  rw [hp] at hh
  have hn4 := numAt_lt s.data.toList 4
  have hn8 := numAt_lt s.data.toList 8
  have hsz : (s.size : Int) ≤ 9223372036854775807 := by unfold maxLen at hsm; omega
  obtain ⟨i0, hi, hi0, hi1, hi2⟩ := info_parts info_u8
  have HP := hide hp
  have c4 : ∀ W, W.cell? ⟨w.heap.size, 0, none⟩ = some (.string s) → Calls Try.prog 48 #[.int .i64 4, .pointer (some ⟨w.heap.size, 0, none⟩)] W fun e w' => e = .returned (.int .i64 (numAt s.data.toList 4)) ∧ Kept W w' := fun W hW => number_any 4 s _ W (by omega) (by omega) hs hsm hW
  have c8 : ∀ W, W.cell? ⟨w.heap.size, 0, none⟩ = some (.string s) → Calls Try.prog 48 #[.int .i64 8, .pointer (some ⟨w.heap.size, 0, none⟩)] W fun e w' => e = .returned (.int .i64 (numAt s.data.toList 8)) ∧ Kept W w' := fun W hW => number_any 8 s _ W (by omega) (by omega) hs hsm hW
  obtain ⟨na, hna⟩ : ∃ na, na = numAt s.data.toList 4 := ⟨_, rfl⟩
  obtain ⟨nd, hnd⟩ : ∃ nd, nd = numAt s.data.toList 8 := ⟨_, rfl⟩
  rw [← hna] at c4 hn4
  rw [← hnd] at c8 hn8
  have C4 := hide c4
  have C8 := hide c8
  have HN := hide (And.intro hna hnd)
  have B0 := hide (base_start w s 9 24)
  clear hp c4 c8 hna hnd
  go_enter Try.func15, Try.ntmps15
  go_upto_region 5 with (first
    | (go_at_call_of 48 (Value.int .i64 4); refine (C4.out _ B0.out.str).mono ?_; rintro e w1 ⟨rfl, hk1⟩; have B1 := hide (B0.out.below hk1 (by simp)))
    | (go_at_call_of 48 (Value.int .i64 8); refine (C8.out _ B1.out.str).mono ?_; rintro e w2 ⟨rfl, hk2⟩; have B2 := hide (B1.out.below hk2 B1.out.lt)))
  have B3 : ∀ W, Below w2.heap.size w2 W → Base w W s := fun W hW => B2.out.below hW B2.out.lt
  have BOX := hide B3
  have b3 := BOX.out w2 (Below.refl _ _)
  obtain ⟨str, r0, r1, r2, f0, f1, f2, hlt, hkept⟩ := b3
  have hk2' : w.heap.size + 1 < w2.heap.size := B2.out.lt
  have hk3' : w.heap.size < w2.heap.size := by omega
  clear hk1 hk2 B0 B1 B2 B3 C4 C8
  cases hz : sizeB na nd with
  | false =>
    go_wp2_with (go_at_call 49; refine (size_any _ _ _ (by omega) (by omega) (by omega) (by omega)).mono ?_; rintro e w' ⟨rfl, rfl⟩)
    exact bodyPost_ret (v := .tuple #[.agg #[.int .i64 0, .int .i64 0, .slice none 0 0], .int .i64 292]) (by simp [results, Try.results15, go_sem, r0, r1, r2, hk2']) rfl (by
      rw [readS_size (by rw [← HN.out.1, ← HN.out.2]; exact hz)]
      exact ⟨rfl, err_kept hkept hlt _⟩)
  | true =>
    obtain ⟨z1, z2, z3, z4, z5, z6⟩ := sizeB_bounds hz
    by_cases hodd : s.size % 2 = 0
    · have hod : ((s.size : Int) % 2 != 0) = false := by simp; omega
      go_wp2_with (go_at_call 49; refine (size_any _ _ _ (by omega) (by omega) (by omega) (by omega)).mono ?_; rintro e w' ⟨rfl, rfl⟩)
      have hev := hide hodd
      clear hodd hod
      go_loopg [7] (s.size - 12) (fun gh at_ wr => ∃ (j m : Nat) (A : Option Addr) (c : Nat), 12 + 2 * j ≤ s.size ∧ 12 + 2 * j + gh = s.size ∧ at_ = .int .i64 ((12 + 2 * j : Nat) : Int) ∧ wr.cell? ⟨w2.heap.size, 0, none⟩ = some (.int .i64 na) ∧ wr.cell? ⟨w2.heap.size, 1, none⟩ = some (.int .i64 nd) ∧
        wr.cell? ⟨w2.heap.size, 2, none⟩ = some (.slice A m c) ∧ wr.frozen? ⟨w2.heap.size, 2, none⟩ = false ∧ Own wr (w2.heap.size + 1) 1 (.slice A m c) m (bytesV (expand ((s.data.toList.drop 12).take (2 * j)))) ∧ (m : Int) ≤ na * nd ∧ w2.heap.size < wr.heap.size ∧ Below w2.heap.size w2 wr)
      case atStart =>
        refine ⟨0, 0, none, 0, by omega, by omega, rfl, by simp, by simp, by simp, ?_, ?_, by omega, by simp, (Below.refl _ _).alloc (Nat.le_refl _) _⟩
        · have hh : (w2.alloc (.cells #[.int .i64 na, .int .i64 nd, .slice none 0 0] 24)).heap[w2.heap.size]? = some (.cells #[.int .i64 na, .int .i64 nd, .slice none 0 0] 24) := by
            show (w2.heap.push _)[w2.heap.size]? = _
            simp
          simp only [World.frozen?, hh]; rfl
        · simp [expand, bytesV]; exact Own.nil _ _ _
      case round =>
        obtain ⟨j, m, A, c, hjs, hjg, rfl, p0, p1, p2, pf, hown, hmn, hwz, hbw⟩ := hrel
        clear str r0 r1 r2 f0 f1 f2 hlt hkept
        obtain ⟨str, r0, r1, r2, f0, f1, f2, hlt, hkept⟩ := BOX.out wr hbw
        cases gk with
        | zero =>
          have hje : 12 + 2 * j = s.size := by omega
          have hge : ¬ (12 + 2 * (j : Int)) < (s.size : Int) := by omega
          have hml : m = (expand ((s.data.toList.drop 12).take (2 * j))).length := by have := hown.1; rw [bytesV_length] at this; omega
          have hall : (s.data.toList.drop 12).take (2 * j) = s.data.toList.drop 12 := List.take_of_length_le (by rw [List.length_drop]; simpa using (by omega : s.size - 12 ≤ 2 * j))
          rw [hall] at hml hown
          obtain ⟨G, hG⟩ : ∃ G, G = expand (s.data.toList.drop 12) := ⟨_, rfl⟩
          rw [← hG] at hown hml
          have hrow := hown.row
          obtain ⟨A', c', hv, hmc, -, -, -, -⟩ := hown.form
          injection hv with hv1 hv2 hv3
          subst hv1; subst hv3
          obtain ⟨t, ht⟩ : ∃ t : ByteArray, t = ⟨(writeL na nd G).toArray⟩ := ⟨_, rfl⟩
          have HG := hide (And.intro hG (And.intro hml ht))
          have cw : mayB na nd m = true → Calls Try.prog 13 #[.agg #[.int .i64 na, .int .i64 nd, .slice A m c]] wr fun e w' => e = .returned (.tuple #[.string t, .int .i64 0]) ∧ Kept wr w' := fun hm => by
            have := write_good na nd A m c G wr hm hmc hml.symm hrow
            simp only [Int.toNat_natCast] at this
            rw [← ht] at this
            exact this
          have cb : mayB na nd m = false → Calls Try.prog 13 #[.agg #[.int .i64 na, .int .i64 nd, .slice A m c]] wr fun e w' => e = .returned (.tuple #[.string ⟨#[]⟩, .int .i64 290]) ∧ Kept wr w' := fun hm =>
            write_bad na nd A m c wr (by omega) (by omega) (by omega) (by omega) (by omega) hm
          have CW := hide cw
          have CB := hide cb
          have HO := hide hown
          clear cw cb hG hml ht hall hje hrow hown
          cases hm : mayB na nd m with
          | false =>
            go_wp2_with (go_at_call 13; refine (CB.out hm).mono ?_; rintro e w3 ⟨rfl, hk3⟩; have b3 := BOX.out w3 (hbw.trans (hk3.mono (by omega))); have s3 := b3.str; have t0 := b3.r0; have t1 := b3.r1; have t2 := b3.r2; have g0 := b3.f0; have g1 := b3.f1; have g2 := b3.f2; have hl3 := b3.lt; have hq3 := hide b3.kept; clear b3)
            exact bodyPost_ret (v := .tuple #[.agg #[.int .i64 0, .int .i64 0, .slice none 0 0], .int .i64 292]) (by simp [results, Try.results15, go_sem, t0, t1, t2]) rfl (by
              rw [readS_may (by rw [← HN.out.1, ← HN.out.2, ← HG.out.1, ← HG.out.2.1]; exact hm)]
              exact ⟨rfl, err_kept0 hq3.out⟩)
          | true =>
            cases hts : (t.toList == s.toList) with
            | false =>
              go_wp2_with (go_at_call 13; refine (CW.out hm).mono ?_; rintro e w3 ⟨rfl, hk3⟩; have b3 := BOX.out w3 (hbw.trans (hk3.mono (by omega))); have s3 := b3.str; have t0 := b3.r0; have t1 := b3.r1; have t2 := b3.r2; have g0 := b3.f0; have g1 := b3.f1; have g2 := b3.f2; have hl3 := b3.lt; have hq3 := hide b3.kept; clear b3)
              exact bodyPost_ret (v := .tuple #[.agg #[.int .i64 0, .int .i64 0, .slice none 0 0], .int .i64 292]) (by simp [results, Try.results15, go_sem, t0, t1, t2]) rfl (by
                rw [readS_other (by
                  rw [← HN.out.1, ← HN.out.2, ← HG.out.1]
                  intro he
                  rw [beq_eq_false_iff_ne] at hts
                  apply hts
                  rw [Lib.toList_data, Lib.toList_data, HG.out.2.2, ← he])]
                exact ⟨rfl, err_kept0 hq3.out⟩)
            | true =>
              have x0 := fun W (hk : Kept wr W) => ((hk.cells w2.heap.size 0 hwz).trans p0)
              have x1 := fun W (hk : Kept wr W) => ((hk.cells w2.heap.size 1 hwz).trans p1)
              have x2 := fun W (hk : Kept wr W) => ((hk.cells w2.heap.size 2 hwz).trans p2)
              have X0 := hide x0
              have X1 := hide x1
              have X2 := hide x2
              clear x0 x1 x2
              go_wp2_with (go_at_call 13; refine (CW.out hm).mono ?_; rintro e w3 ⟨rfl, hk3⟩; have y0 := X0.out w3 hk3; have y1 := X1.out w3 hk3; have y2 := X2.out w3 hk3; have b3 := BOX.out w3 (hbw.trans (hk3.mono (by omega))); have s3 := b3.str; have t0 := b3.r0; have t1 := b3.r1; have t2 := b3.r2; have g0 := b3.f0; have g1 := b3.f1; have g2 := b3.f2; have hl3 := b3.lt; have hq3 := hide b3.kept; have hq4 := hide hk3; clear b3 hk3)
              exact bodyPost_ret (v := .tuple #[.agg #[.int .i64 na, .int .i64 nd, .slice A m c], .int .i64 0]) (by simp [results, Try.results15, go_sem, t0, t1, t2]) rfl (by
                have hw9 : writeL na nd G = s.data.toList := by
                  rw [beq_iff_eq, Lib.toList_data, Lib.toList_data, HG.out.2.2] at hts
                  exact hts
                rw [readS_yes HP.out (by have := hev.out; simpa using this) (by rw [← HN.out.1, ← HN.out.2, ← HG.out.1, ← HG.out.2.1]; exact hm) (by rw [← HN.out.1, ← HN.out.2, ← HG.out.1]; exact hw9), ← HN.out.1, ← HN.out.2, ← HG.out.1]
                refine ⟨.slice A m c, rfl, ?_, err_kept0 hq3.out⟩
                have h9 := (HO.out.kept hq4.out).less (base' := w.heap.size) (by omega)
                rw [← HG.out.2.1]
                have hne : ∀ k, (Value.slice A m c).ownBlock = some k → k ≠ w.heap.size + 1 := fun k hk => by have := (HO.out.lt k hk).1; omega
                exact ((h9.far (p := ⟨w.heap.size + 1, 0, none⟩) hne _).far (p := ⟨w.heap.size + 1, 1, none⟩) hne _).far (p := ⟨w.heap.size + 1, 2, none⟩) hne _)
        | succ gh =>
          have hlt0 : 12 + 2 * j + 1 < s.size := by have := hev.out; omega
          have hlt1 : (12 + 2 * (j : Int)) < (s.size : Int) := by omega
          have hlt2 : (12 + 2 * (j : Int) + 1) < (s.size : Int) := by omega
          obtain ⟨y, hy⟩ : ∃ y, s[12 + 2 * j]'(by omega) = y := ⟨_, rfl⟩
          obtain ⟨x, hx⟩ : ∃ x, s[12 + 2 * j + 1]'(by omega) = x := ⟨_, rfl⟩
          have hyL : s.data.toList[12 + 2 * j]? = some y := by rw [← hy]; exact get_data s _ (by omega)
          have hxL : s.data.toList[12 + 2 * j + 1]? = some x := by rw [← hx]; exact get_data s _ (by omega)
          have HL := hide (And.intro hyL hxL)
          clear hyL hxL
          have hyb := y.toNat_lt
          have hxb := x.toNat_lt
          by_cases hy0 : y.toNat = 0
          · have b1 : ((y.toNat : Int) == 0) = true := by simp [hy0]
            have HY := hide hy0
            clear hy0
            go_wp2
            exact bodyPost_ret (v := .tuple #[.agg #[.int .i64 0, .int .i64 0, .slice none 0 0], .int .i64 292]) (by simp [results, Try.results15, go_sem, r0, r1, r2]) rfl (by
              rw [readS_zero (j := j) (by rw [HL.out.1]; congr 1; exact UInt8.toNat_inj.1 HY.out)]
              exact ⟨rfl, err_kept0 hkept⟩)
          · have b1 : ((y.toNat : Int) == 0) = false := by simp; omega
            by_cases hov : (na : Int) * nd - m < y.toNat
            · have HM := hide hown.1
              go_wp2
              exact bodyPost_ret (v := .tuple #[.agg #[.int .i64 0, .int .i64 0, .slice none 0 0], .int .i64 292]) (by simp [results, Try.results15, go_sem, r0, r1, r2]) rfl (by
                have hm2 : m = (expand ((s.data.toList.drop 12).take (2 * j))).length := by have := HM.out; rw [bytesV_length] at this; omega
                rw [readS_over (j := j) (by simpa using hlt0) HL.out.1 (by
                  rw [← HN.out.1, ← HN.out.2, ← hm2]
                  have h8 : ((na * nd : Nat) : Int) = na * nd := by simp
                  omega)]
                exact ⟨rfl, err_kept0 hkept⟩)
            · go_wp2
              have hml : m = (expand ((s.data.toList.drop 12).take (2 * j))).length := by have := hown.1; rw [bytesV_length] at this; omega
              obtain ⟨G, hG⟩ : ∃ G, G = expand ((s.data.toList.drop 12).take (2 * j)) := ⟨_, rfl⟩
              rw [← hG] at hown hml
              have HG := hide (And.intro hG hml)
              clear hG hml
              have hov' : (m : Int) + y.toNat ≤ na * nd := by omega
              clear hov b1 str r0 r1 r2 f0 f1 f2 hlt hkept
              go_loopg [67] y.toNat (fun g3 ii wx => ∃ (q : Nat) (A2 : Option Addr) (c2 : Nat), q + g3 = y.toNat ∧ ii = .int .i64 q ∧ wx.cell? ⟨w2.heap.size, 0, none⟩ = some (.int .i64 na) ∧ wx.cell? ⟨w2.heap.size, 1, none⟩ = some (.int .i64 nd) ∧
                wx.cell? ⟨w2.heap.size, 2, none⟩ = some (.slice A2 (m + q) c2) ∧ wx.frozen? ⟨w2.heap.size, 2, none⟩ = false ∧ Own wx (w2.heap.size + 1) 1 (.slice A2 (m + q) c2) (m + q) (bytesV (G ++ List.replicate q x)) ∧ w2.heap.size < wx.heap.size ∧ Below w2.heap.size w2 wx)
              case atStart => exact ⟨0, A, c, by omega, rfl, p0, p1, p2, pf, by simpa using hown, hwz, hbw⟩
              case round =>
                clear hown p0 p1 p2 pf hwz hbw
                obtain ⟨q, A2, c2, hqg, rfl, p0, p1, p2, pf, hown, hwz, hbw⟩ := hrel
                cases gk with
                | zero =>
                  have hqe : q = y.toNat := by omega
                  have HREL : Hid (12 + 2 * (j + 1) ≤ s.size ∧ bytesV (G ++ List.replicate q x) = bytesV (expand ((s.data.toList.drop 12).take (2 * (j + 1))))) := by
                    refine ⟨by omega, ?_⟩
                    rw [expand_next j _ y x (by rw [List.length_drop]; simpa using (by omega : 2 * j + 1 < s.size - 12)) (by rw [List.getElem?_drop]; exact HL.out.1) (by rw [List.getElem?_drop]; exact HL.out.2), ← HG.out.1, hqe]
                  have hge : ¬ ((q : Int) < y.toNat) := by omega
                  clear hqe
                  go_wp2
                  go_roundg (gh - 1)
                  case measure => omega
                  case rel => exact ⟨j + 1, m + q, A2, c2, HREL.out.1, by omega, by go_num, p0, p1, p2, pf, by rw [← HREL.out.2]; exact hown, by omega, hwz, hbw⟩
                | succ g3 =>
                  have hlt3 : (q : Int) < y.toNat := by omega
                  have str := (BOX.out wr hbw).str
                  have n2 := World.new_ne wr _ p2
                  have ns := World.new_ne wr _ str
                  have hg0 : (0 : Int) ≤ 12 + 2 * (j : Int) + 1 := by omega
                  have k1 : IntKind.i64.wrap (12 + 2 * (j : Int) + 1) = 12 + 2 * (j : Int) + 1 := IntWalk.i64_in _ (by omega)
                  have k2 : (12 + 2 * (j : Int) + 1).toNat = 12 + 2 * j + 1 := by omega
                  have hnew : Row (wr.drew.alloc (.cells #[.int .u8 (x.toNat : Int)] 5)) (some ⟨wr.heap.size, 0, none⟩) (bytesV [x]) := Row.new_at _ _ _ _ _ _ rfl rfl
                  have hbo : w2.heap.size + 1 ≤ wr.heap.size + 1 := by omega
                  go_wp2_with fail
                  refine wp_region_L (fun w' => w'.cell? ⟨w2.heap.size, 2, none⟩ = some (.slice A2 (m + q) c2) ∧ w'.cell? ⟨w.heap.size, 0, none⟩ = some (.string s)) 9 (by kernel_rfl) ?_ (fun hHeld => ?_)
                  · go_keep
                  refine wpAnyL_take (i := 0) (v := ?_) (some 69) rfl rfl (by kernel_rfl) (by kernel_rfl) (by kernel_rfl) (by kernel_rfl) (fun _ _ _ h => h) (Or.inl ⟨by rfl, ?_⟩) (by assumption) ?_
                  rotate_left
                  · intro w hSw; (try dsimp only at hSw); go_simp; (try with_reducible rfl)
                  try simp only [Act.put, List.setIfInBounds_toArray, List.set_cons_zero, List.set_cons_succ]
                  refine wpAnyL_take (i := 1) (v := ?_) (some 70) rfl rfl (by kernel_rfl) (by kernel_rfl) (by kernel_rfl) (by kernel_rfl) (fun _ _ _ h => h) (Or.inl ⟨by rfl, ?_⟩) (by assumption) ?_
                  rotate_left
                  · intro w hSw; (try dsimp only at hSw); go_simp; (try with_reducible rfl)
                  try simp only [Act.put, List.setIfInBounds_toArray, List.set_cons_zero, List.set_cons_succ]
                  refine wpAnyL_take (i := 2) (v := ?_) (some 71) rfl rfl (by kernel_rfl) (by kernel_rfl) (by kernel_rfl) (by kernel_rfl) (fun _ _ _ h => h) (Or.inl ⟨by rfl, ?_⟩) (by assumption) ?_
                  rotate_left
                  · intro w hSw; (try dsimp only at hSw); go_simp; (try with_reducible rfl)
                  try simp only [Act.put, List.setIfInBounds_toArray, List.set_cons_zero, List.set_cons_succ]
                  refine wpAnyL_take (i := 3) (v := ?_) (some 72) rfl rfl (by kernel_rfl) (by kernel_rfl) (by kernel_rfl) (by kernel_rfl) (fun _ _ _ h => h) (Or.inl ⟨by rfl, ?_⟩) (by assumption) ?_
                  rotate_left
                  · intro w hSw; (try dsimp only at hSw); go_simp; (try with_reducible rfl)
                  try simp only [Act.put, List.setIfInBounds_toArray, List.set_cons_zero, List.set_cons_succ]
                  refine wpAnyL_take (i := 4) (v := ?_) (some 73) rfl rfl (by kernel_rfl) (by kernel_rfl) (by kernel_rfl) (by kernel_rfl) (fun _ _ _ h => h) (Or.inl ⟨by rfl, ?_⟩) (by assumption) ?_
                  rotate_left
                  · intro w hSw; (try dsimp only at hSw); go_simp; (try with_reducible rfl)
                  try simp only [Act.put, List.setIfInBounds_toArray, List.set_cons_zero, List.set_cons_succ]
                  refine wpAnyL_take (i := 5) (v := ?_) (some 74) rfl rfl (by kernel_rfl) (by kernel_rfl) (by kernel_rfl) (by kernel_rfl) (fun _ _ _ h => h) (Or.inl ⟨by rfl, ?_⟩) (by assumption) ?_
                  rotate_left
                  · intro w hSw; (try dsimp only at hSw); go_simp; (try with_reducible rfl)
                  try simp only [Act.put, List.setIfInBounds_toArray, List.set_cons_zero, List.set_cons_succ]
                  refine wpAnyL_one (i := 6) (by kernel_rfl) rfl (fun K hK => ?_)
                  go_simp
                  refine hK.out _ _ ?_ (fun hHeld => ?_)
                  · go_keep
                  clear hK K
                  try simp only [Act.put, List.setIfInBounds_toArray, List.set_cons_zero, List.set_cons_succ]
                  refine wpAnyL_one (i := 7) (by kernel_rfl) rfl (fun K hK => ?_)
                  (refine step_append_row _ rfl _ _ 22 rfl (w2.heap.size + 1) 5 i0 (.int .u8 0) 1 1 Try.underlying22 hi hi0 hi1 hi2 rfl (by decide) _ (m + q) _ rfl (hown.drew.alloc _) (some ⟨wr.heap.size, 0, none⟩) 1 1 (bytesV [x]) rfl rfl hnew (bytesV_one _) (by unfold maxLen; omega) (by omega) (by simp; omega) ?_; intro v3 w3 hown3 hg3 hat3; have hb3 : Below (w2.heap.size + 1) wr w3 := below_append ((Below.refl _ wr).drew.alloc (by simp; omega) _) (hown.drew.alloc _) (Nat.le_refl _) (by simp; omega) hg3; have e2 := (hb3.cell (p := ⟨w2.heap.size, 2, none⟩) (by simp)).trans p2; have e0 := (hb3.cell (p := ⟨w.heap.size, 0, none⟩) (by simp; omega)).trans str; have ef := (hb3.frozen (p := ⟨w2.heap.size, 2, none⟩) (by simp)).trans pf; obtain ⟨A4, c4, rfl, hv1, hv2, -, hv4, -⟩ := hown3.form)
                  refine hK.out _ _ ?_ (fun hHeld => ?_)
                  · go_keep
                  clear hK K
                  try simp only [Act.put, List.setIfInBounds_toArray]
                  refine wpAnyL_one (i := 8) (by kernel_rfl) rfl (fun K hK => ?_)
                  go_simp
                  refine hK.out _ _ ?_ (fun hHeld => ?_)
                  · go_keep
                  clear hK K
                  try simp only [Act.put, List.setIfInBounds_toArray, List.set_cons_zero, List.set_cons_succ]
                  refine wpAnyL_end (by kernel_rfl) rfl (fun K hK => ?_)
                  go_simp
                  refine hK.out _ _ ?_
                  clear hK K
                  try simp only [Act.put, List.setIfInBounds_toArray, List.set_cons_zero, List.set_cons_succ]
                  refine wpAnyL_done (by kernel_rfl) ?_ _
                  have q0 := (hb3.cell (p := ⟨w2.heap.size, 0, none⟩) (by simp)).trans p0
                  have q1 := (hb3.cell (p := ⟨w2.heap.size, 1, none⟩) (by simp)).trans p1
                  have hmq : (((m + q : Nat) : Int)) + 1 = ((m + (q + 1) : Nat) : Int) := by omega
                  have HB3 := hide (And.intro hb3 (And.intro hown3 (And.intro q0 (And.intro q1 (And.intro e2 ef)))))
                  clear hb3 hown3 q0 q1 e2 ef e0 hmq k1 k2 hHeld hg3 hat3 hown hnew p0 p1 p2 pf str
                  go_wp2
                  go_roundg g3
                  case measure => omega
                  case rel =>
                    obtain ⟨hb3, hown3, q0, q1, e2, ef⟩ := HB3.out
                    have hw3 : w2.heap.size + 1 ≤ w3.heap.size := by have := hb3.size; omega
                    refine ⟨q + 1, A4, c4, by omega, by go_num, ?_, ?_, ?_, ?_, ?_, by simp [World.setCell]; omega, (hbw.trans (hb3.mono (by omega))).setCell (by simp) _⟩
                    · rw [World.cell?_setCell_other _ _ _ _ (by simp)]; exact q0
                    · rw [World.cell?_setCell_other _ _ _ _ (by simp)]; exact q1
                    · rw [World.cell?_setCell_same _ _ _ e2]; rfl
                    · rw [World.frozen?_setCell]; exact ef
                    · have h9 : Own w3 (w2.heap.size + 1) 1 (.slice A4 (m + (q + 1)) c4) (m + (q + 1)) (bytesV (G ++ List.replicate (q + 1) x)) := by
                        rw [List.replicate_succ', ← List.append_assoc, bytesV_append]
                        exact hown3
                      exact h9.far (fun k hk => by have := (h9.lt k hk).1; simp; omega) _
    · have hod : ((s.size : Int) % 2 != 0) = true := by simp; omega
      go_wp2_with (go_at_call 49; refine (size_any _ _ _ (by omega) (by omega) (by omega) (by omega)).mono ?_; rintro e w' ⟨rfl, rfl⟩)
      exact bodyPost_ret (v := .tuple #[.agg #[.int .i64 0, .int .i64 0, .slice none 0 0], .int .i64 292]) (by simp [results, Try.results15, go_sem, r0, r1, r2, hk2']) rfl (by
        rw [readS_odd (by simpa using hodd)]
        exact ⟨rfl, err_kept hkept hlt _⟩)

theorem read_any (s : ByteArray) (w : World) (hsm : s.size ≤ maxLen) : Calls Try.prog 15 #[.string s] w (ReadPost w (readS s.data.toList)) := by
  by_cases hs : s.size < 12
  · exact read_short s w hs
  · cases hp : headOk s.data.toList with
    | false => exact read_head s w (by omega) hp
    | true => exact read_body s w (by omega) hsm hp
end Go.Proofs.Ytbhgcbgaadnfpaa
