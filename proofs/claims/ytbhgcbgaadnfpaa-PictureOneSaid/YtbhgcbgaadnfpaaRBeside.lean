/- The reference's Beside, walked. -/
import Derived.Test.YtbhgcbgaadnfpaaRBelow
namespace Go.Proofs.Ytbhgcbgaadnfpaa
open Go.RowKit

theorem size_refd {a d : Int} (ha : 1 ≤ a) (hd : 1 ≤ d) (hdm : d ≤ 4194304) : sizeB a d = !(decide (4194304 < a) || decide (4194304 < a * d)) := by
  rw [Bool.eq_iff_iff, sizeB_iff]
  have h1 : 1 * d ≤ a * d := Int.mul_le_mul_of_nonneg_right ha (by omega)
  simp only [Bool.not_eq_true', Bool.or_eq_false_iff, decide_eq_false_iff_not]
  constructor
  · rintro ⟨-, -, h0, h⟩
    have := (Int.le_ediv_iff_mul_le (by omega)).1 h
    rw [Int.mul_comm] at this
    omega
  · rintro ⟨h, h2⟩
    exact ⟨ha, hd, by omega, (Int.le_ediv_iff_mul_le (by omega)).2 (by rw [Int.mul_comm]; omega)⟩

set_option maxRecDepth 100000 in
set_option maxHeartbeats 400000 in
theorem rbeside_bad (A : Option Addr) (c : Nat) (ps : List PicD) (P : PicD) (E : Int) (w : World) (hp : Pics w A ps) (hl : ps.length ≤ 1000000000) (hE : wrongE ps = E) (hE0 : E ≠ 0) (hb : -9223372036854775808 ≤ E ∧ E ≤ 9223372036854775807) :
    Calls Try.prog 30 #[.slice A ps.length c] w (PutPost w E P) := by
  have CALL : Hid (∀ W, Kept w W → Calls Try.prog 55 #[.slice A ps.length c] W fun e w' => e = .returned (.int .i64 E) ∧ Kept W w') := fun W hW => by
    have := rwrong_any A c ps W (hp.kept hW) hl
    rwa [hE] at this
  have hne : (E != 0) = true := by simp [hE0]
  have HE := hide hE0
  obtain ⟨L, hL⟩ : ∃ L, L = ps.length := ⟨_, rfl⟩
  rw [← hL] at CALL ⊢
  have R0 := hide (Res0.new w w 24 (Below.refl _ _))
  clear hL hE hp hE0 hl hb
  go_enter Try.func30, Try.ntmps30
  go_wp2_with (go_at_call 55; refine (CALL.out _ ((Below.refl _ _).alloc (Nat.le_refl _) _)).mono ?_; rintro e w1 ⟨rfl, hk1⟩; have R1 := R0.out.below hk1 (by simp); have t0 := R1.r0; have t1 := R1.r1; have t2 := R1.r2; have g0 := R1.f0; have g1 := R1.f1; have g2 := R1.f2; have R2 := hide R1; clear R1)
  exact bodyPost_ret (v := .tuple #[.agg #[.int .i64 0, .int .i64 0, .slice none 0 0], .int .i64 E]) (by simp [results, Try.results30, go_sem, t0, t1, t2]) rfl (PutPost.err HE.out (R2.out.stored _ _ _))

set_option maxRecDepth 100000 in
set_option maxHeartbeats 1600000 in
theorem rbeside_right (A : Option Addr) (c : Nat) (p : PicD) (ps : List PicD) (w : World) (hp : Pics w A (p :: ps)) (hl : (p :: ps).length ≤ 1000000) (hE : allE (p :: ps) = 0) :
    Calls Try.prog 30 #[.slice A (p :: ps).length c] w (PutPost w (besideE (p :: ps)) (besideP (p :: ps))) := by
  have call : ∀ W, Kept w W → Calls Try.prog 55 #[.slice A (p :: ps).length c] W fun e w' => e = .returned (.int .i64 0) ∧ Kept W w' := fun W hW => by
    have := rwrong_any A c (p :: ps) W (hp.kept hW) (by omega)
    rwa [show wrongE (p :: ps) = 0 by simp [wrongE, hE]] at this
  obtain ⟨i0, hi, hi0, hi1, hi2⟩ := info_parts info_u8
  obtain ⟨qs, hqs⟩ : ∃ qs, qs = p :: ps := ⟨_, rfl⟩
  have hq0 : qs[0]? = some p := by rw [hqs]; rfl
  have HB : Hid (besideE qs = if qs.all (fun q => q.d == p.d) then (if sizeB (sumA qs) p.d then 0 else 4) else 291) := by show _ = _; rw [hqs]; simp [besideE, hE]
  have HBP : Hid (besideP qs = ⟨sumA qs, p.d, besideG qs p.d.toNat⟩) := by show _ = _; rw [hqs]; rfl
  rw [← hqs] at call hl hp hE ⊢
  clear hqs
  obtain ⟨L, hL⟩ : ∃ L, L = qs.length := ⟨_, rfl⟩
  have hLp : 0 < L := by rw [hL]; have := (List.getElem?_eq_some_iff.1 hq0).1; omega
  have hL0 : ((L : Int) == 0) = false := by simp; omega
  have hL1 : (0 : Int) < (L : Int) := by omega
  rw [← hL] at call hl ⊢
  have CALL := hide call
  have HL := hide hL
  have HE := hide hE
  have R0 := hide (Res0.new w w 24 (Below.refl _ _))
  obtain ⟨b, off, A0, n0, d0, rfl, hb, c0, c1, c2, hpa⟩ := hp.at_ hq0
  have HP := hide hp
  simp only [Nat.zero_mul, Nat.add_zero] at c1
  have hbnd := mayB_bounds (may_of_allE hE hq0)
  obtain ⟨v1, v2, v3, v4, -, -, -⟩ := hbnd
  clear hL hE hp call hpa c0 c2
  have HQ0 := hide hq0
  clear hq0
  go_enter Try.func30, Try.ntmps30
  go_upto_region 5 with (go_at_call 55; refine (CALL.out _ ((Below.refl _ _).alloc (Nat.le_refl _) _)).mono ?_; rintro e w1 ⟨rfl, hk1⟩; have k0 := (hk1.cells b (off + 1) (by simp; omega)).trans ((World.cell?_alloc_lt w _ ⟨b, off + 1, none⟩ hb).trans c1); have R1 := hide (R0.out.below hk1 (by simp)); have hz1 := hk1.size; simp at hz1)
  have BOX : ∀ W, Below w1.heap.size w1 W → Res0 w W w.heap.size ∧ Kept w W := fun W hW => by
    have h1 := R1.out.below hW R1.out.lt
    exact ⟨h1, h1.kept⟩
  have HBOX := hide BOX
  have hlt0 : w.heap.size < w1.heap.size := R1.out.lt
  clear BOX hk1 R0 R1 k0
  go_wp2
  go_loopg [6] L (fun gh ix wr => ∃ k : Nat, k + gh = L ∧ ix = .int .i64 k ∧ wr.cell? ⟨w1.heap.size, 0, none⟩ = some (.int .i64 (sumA (qs.take k))) ∧ wr.cell? ⟨w1.heap.size, 1, none⟩ = some (.int .i64 p.d) ∧ wr.cell? ⟨w1.heap.size, 2, none⟩ = some (.slice none 0 0) ∧
    wr.frozen? ⟨w1.heap.size, 0, none⟩ = false ∧ wr.frozen? ⟨w1.heap.size, 2, none⟩ = false ∧ Hid (∀ (i : Nat) (q : PicD), i < k → qs[i]? = some q → q.d = p.d) ∧ w1.heap.size < wr.heap.size ∧ Below w1.heap.size w1 wr)
  case atStart =>
    have hh : (w1.alloc (.cells #[.int .i64 0, .int .i64 p.d, .slice none 0 0] 24)).heap[w1.heap.size]? = some (.cells #[.int .i64 0, .int .i64 p.d, .slice none 0 0] 24) := by
      show (w1.heap.push _)[w1.heap.size]? = _
      simp
    refine ⟨0, by omega, rfl, by simp [sumA, sumI], by simp, by simp, ?_, ?_, fun i q hi => by omega, by simp, (Below.refl _ _).alloc (Nat.le_refl _) _⟩ <;> (simp only [World.frozen?, hh]; rfl)
  case round =>
    obtain ⟨k, hkg, rfl, o0, o1, o2, of1, of2, HI, hwz, hbw⟩ := hrel
    obtain ⟨⟨r0, r1, r2, f0, f1, f2, hrl, -, -⟩, hkw⟩ := HBOX.out wr hbw
    have RES := hide (HBOX.out wr hbw).1
    cases gk with
    | zero =>
      have hge : ¬ (k : Int) < L := by omega
      have hkL : k = L := by omega
      have hsame : qs.all (fun q => q.d == p.d) = true := by
        rw [List.all_eq_true]
        intro q hq
        obtain ⟨i, hi⟩ := List.getElem?_of_mem hq
        have := HI.out i q (by have := (List.getElem?_eq_some_iff.1 hi).1; have := HL.out; omega) hi
        simp [this]
      have htk : qs.take k = qs := List.take_of_length_le (by have := HL.out; omega)
      rw [htk] at o0
      have hsum := (sums_le HE.out L (by have := HL.out; omega)).2
      rw [← hkL, htk] at hsum
      obtain ⟨s1, s2⟩ := hsum
      have HB2 : Hid (besideE qs = if sizeB (sumA qs) p.d then 0 else 4) := by show _ = _; rw [HB.out, if_pos hsame]
      have hgl : ∀ q ∈ qs, 0 ≤ q.a ∧ (q.g.length : Int) = q.a * p.d.toNat := fun q hq => by
        obtain ⟨i, hi⟩ := List.getElem?_of_mem hq
        have h1 := HI.out i q (by have := (List.getElem?_eq_some_iff.1 hi).1; have := HL.out; omega) hi
        have h2 := mayB_bounds (may_of_allE HE.out hi)
        refine ⟨by omega, ?_⟩
        rw [h2.2.2.2.2.1, h1, Int.toNat_of_nonneg (by omega)]
      have HGL := hide hgl
      have HQD : Hid (∀ q ∈ qs, q.d = p.d) := by
        intro q hq
        obtain ⟨i, hi⟩ := List.getElem?_of_mem hq
        exact HI.out i q (by have := (List.getElem?_eq_some_iff.1 hi).1; have := HL.out; omega) hi
      clear hgl hsame htk hkL
      obtain ⟨S, hS⟩ : ∃ S, S = sumA qs := ⟨_, rfl⟩
      rw [← hS] at o0 s1 s2
      have HS := hide hS
      clear hS
      have s3 : 1 ≤ S := by
        have h1 := HS.out
        have h2 : ∃ r, qs = p :: r := by
          cases hqq : qs with
          | nil => have := HQ0.out; rw [hqq] at this; simp at this
          | cons y r => have := HQ0.out; rw [hqq] at this; simp at this; subst this; exact ⟨r, rfl⟩
        obtain ⟨r, hr⟩ := h2
        have h3 : ∀ x ∈ r.map (·.a), 0 ≤ x ∧ x ≤ 4194304 := fun x hx => by
          obtain ⟨q, hq, rfl⟩ := List.mem_map.1 hx
          obtain ⟨i, hi⟩ := List.getElem?_of_mem (show q ∈ qs by rw [hr]; exact List.mem_cons_of_mem _ hq)
          have := mayB_bounds (may_of_allE HE.out hi); omega
        have h4 := (sumI_nonneg _ h3).1
        have h5 : sumA qs = p.a + sumI (r.map (·.a)) := by rw [hr]; rfl
        omega
      have hsr := size_refd (a := S) (d := p.d) s3 v3 v4
      have QQ : ¬ 4194304 < S → IntKind.i64.wrap (S * p.d) = S * p.d := fun h => by
        have m1 : 0 ≤ S * p.d := Int.mul_nonneg (by omega) (by omega)
        have m2 : S * p.d ≤ 4194304 * 4194304 := Int.mul_le_mul (by omega) v4 (by omega) (by omega)
        exact IntWalk.i64_in _ (by omega)
      have HQQ := hide QQ
      clear QQ
      cases hz : sizeB S p.d with
      | false =>
        rw [hz] at hsr
        have hbad : 4194304 < S ∨ 4194304 < S * p.d := by
          have := hsr.symm
          simp only [Bool.not_eq_false', Bool.or_eq_true, decide_eq_true_eq] at this
          exact this
        have HZ := hide hz
        clear hsr hz
        rcases (show 4194304 < S ∨ (¬ 4194304 < S ∧ 4194304 < S * p.d) by omega) with hb1 | ⟨hb1, hb2⟩
        all_goals
          clear hbad
          try have q1 := HQQ.out hb1
          go_wp2_with fail
          exact bodyPost_ret (v := .tuple #[.agg #[.int .i64 0, .int .i64 0, .slice none 0 0], .int .i64 4]) (by simp [results, Try.results30, go_sem, r0, r1, r2]) rfl (by
            rw [HB2.out, ← HS.out, HZ.out]
            exact PutPost.err (E := 4) (by omega) (RES.out.stored _ _ _))
      | true =>
        have hE0 : besideE qs = 0 := by rw [HB2.out, ← HS.out, hz]; rfl
        obtain ⟨z1, z2, z3, z4, z5, z6⟩ := sizeB_bounds hz
        have nb1 : ¬ 4194304 < S := by omega
        have nb2 : ¬ 4194304 < S * p.d := by omega
        have q1 := HQQ.out nb1
        have HE0 := hide hE0
        clear hE0 hsr hz
        go_wp2_with fail
        clear r0 r1 r2 f0 f1 f2 hrl RES hkw
        go_loopg [7] p.d.toNat (fun gh ix wy => OutLoop p.d.toNat w1 (.int .i64 S) (.int .i64 p.d) (besideG qs) gh ix wy)
        case atStart => exact ⟨0, 0, none, 0, by omega, rfl, ⟨o0, o1, o2⟩, of2, Own.nil _ _ _, hwz, hbw⟩
        case round =>
          clear o0 o1 o2 of1 of2 hwz hbw
          obtain ⟨k2, m2, A2, c2, hkg2, rfl, hout⟩ := hrel
          obtain ⟨o0, o1, o2⟩ := hout.box
          cases gk with
          | zero =>
            have hge2 : ¬ (k2 : Int) < p.d := by omega
            have hkd : k2 = p.d.toNat := by omega
            obtain ⟨⟨r0, r1, r2, f0, f1, f2, hrl, -, -⟩, hkw⟩ := HBOX.out wr hout.below
            have RES := hide (HBOX.out wr hout.below).1
            have HO := hide hout.own
            have HKD := hide hkd
            clear hout hkd
            go_wp2
            exact bodyPost_ret (v := .tuple #[.agg #[.int .i64 S, .int .i64 p.d, .slice A2 m2 c2], .int .i64 0]) (by simp [results, Try.results30, go_sem, r0, r1, r2]) rfl (by
              rw [HE0.out, HBP.out, ← HS.out]
              exact put_ok (P := ⟨S, p.d, besideG qs p.d.toNat⟩) HO.out (by rw [HKD.out]) RES.out (by omega))
          | succ g2 =>
            have hlt2 : (k2 : Int) < p.d := by omega
            have HOUT := hide hout
            clear hout
            go_wp2
            go_loopg [8] L (fun gh ix wy => OutLoop L w1 (.int .i64 S) (.int .i64 p.d) (fun j => besideG qs k2 ++ rowsAt (qs.take j) k2) gh ix wy)
            case atStart => exact ⟨0, m2, A2, c2, by omega, rfl, by simpa [rowsAt] using HOUT.out⟩
            case round =>
              clear o0 o1 o2 HOUT
              obtain ⟨j, m, A2, c2, hjg, rfl, hout⟩ := hrel
              dsimp only at hout
              cases gk with
              | zero =>
                have hgej : ¬ (j : Int) < L := by omega
                have hjl : j = L := by omega
                have htk : qs.take j = qs := List.take_of_length_le (by have := HL.out; omega)
                have HOUT : Hid (OutAt w1 (.int .i64 S) (.int .i64 p.d) (besideG qs (k2 + 1)) wr m A2 c2) := by
                  have := hout
                  rw [htk] at this
                  exact this
                clear hout htk hjl
                go_wp2
                go_roundg g2
                case measure => omega
                case rel => exact ⟨k2 + 1, m, A2, c2, by omega, by go_num, HOUT.out⟩
              | succ g3 =>
                have hltj : (j : Int) < L := by omega
                obtain ⟨q, hqk⟩ : ∃ q, qs[j]? = some q := ⟨_, List.getElem?_eq_getElem (by have := HL.out; omega)⟩
                obtain ⟨⟨r0, r1, r2, f0, f1, f2, hrl, -, -⟩, hkw⟩ := HBOX.out wr hout.below
                obtain ⟨b', off', A', n, c', hA', hb', c0', c1', c2', hpa⟩ := (HP.out.kept hkw).at_ hqk
                injection hA' with hA'
                injection hA' with hA1 hA2
                subst hA1
                subst hA2
                have hmay := may_of_allE HE.out hqk
                have hqd := HQD.out q (List.mem_of_getElem? hqk)
                have hrm := bes_room qs p.d.toNat HGL.out hqk (k := k2) (by omega) (by rw [← HS.out, Int.toNat_of_nonneg (by omega)]; exact z6)
                have hml := hout.own.1
                rw [bytesV_length] at hml
                rw [hpa.len] at hmay
                obtain ⟨y1, y2, y3, y4, y5, y6, y7⟩ := mayB_bounds hmay
                have HNX := hide (rowsAt_next hqk k2)
                have HOUT := hide hout
                have o2 := hout.box.2.2
                have hcap := hpa.cap
                have HR := hide hpa.row
                have hwz2 := hout.lt
                have HRM := hide hrm.2
                have hmb : m + q.a.toNat ≤ 4194304 := by omega
                obtain ⟨M, hM⟩ : ∃ M, M = k2 * q.a.toNat := ⟨_, rfl⟩
                have hMI : (k2 : Int) * q.a = (M : Int) := by rw [hM, Int.natCast_mul, Int.toNat_of_nonneg (by omega)]
                have hMJ : ((k2 : Int) + 1) * q.a = (M : Int) + q.a := by rw [Int.add_mul, hMI]; omega
                have hMn : (M : Int) + q.a ≤ n := by
                  rw [y5, ← hMJ, Int.mul_comm q.a]
                  exact Int.mul_le_mul_of_nonneg_right (by omega) (by omega)
                have e1 : IntKind.i64.wrap ((k2 : Int) * q.a) = (M : Int) := by rw [hMI]; exact IntWalk.i64_in _ (by omega)
                have e2 : IntKind.i64.wrap ((k2 : Int) + 1) = (k2 : Int) + 1 := IntWalk.i64_in _ (by omega)
                have e3 : IntKind.i64.wrap (((k2 : Int) + 1) * q.a) = (M : Int) + q.a := by rw [hMJ]; exact IntWalk.i64_in _ (by omega)
                have e4 : ((M : Int) + q.a).toNat = M + q.a.toNat := by omega
                have e5 : (0 : Int) ≤ (M : Int) + q.a := by omega
                have e6 : (M : Int) ≤ (M : Int) + q.a := by omega
                have e7 : (M : Int) + q.a ≤ (c' : Int) := by omega
                have e8 : ¬ c' = M := by omega
                have e9 : M + q.a.toNat - M = q.a.toNat := by omega
                have Q9 : Hid (∀ W, Kept wr W → Row W (A'.map (·.add M)) (bytesV (rowOf q.a.toNat q.g k2))) := by
                  intro W hW
                  have h9 := ((HR.out.kept hW).drop M).take q.a.toNat
                  rw [bytesV_drop, bytesV_take, hM] at h9
                  rw [hM]
                  exact h9
                have SK : Hid (∀ W, Below (w1.heap.size + 1) wr W → W.cell? ⟨b, off + j * 3, none⟩ = some (.int .i64 q.a) ∧ W.cell? ⟨b, off + j * 3 + 2, none⟩ = some (.slice A' n c') ∧ W.cell? ⟨w1.heap.size, 2, none⟩ = some (.slice A2 m c2)) := by
                  intro W hW
                  exact ⟨(hW.cell (p := ⟨b, off + j * 3, none⟩) (by show b < _; omega)).trans c0', (hW.cell (p := ⟨b, off + j * 3 + 2, none⟩) (by show b < _; omega)).trans c2', (hW.cell (p := ⟨w1.heap.size, 2, none⟩) (by simp)).trans o2⟩
                have HS2 := hide (And.intro c0' (And.intro c2' o2))
                clear hpa hmay hqd hrm hml hout hqk r0 r1 r2 f0 f1 f2 hrl hkw y5 hM hMI hMJ hMn
                go_wp2_with fail
                clear c0' c1' c2' o2
                refine wp_region_L (fun X => X.cell? ⟨b, off + j * 3, none⟩ = some (.int .i64 q.a) ∧ X.cell? ⟨b, off + j * 3 + 2, none⟩ = some (.slice A' n c') ∧ X.cell? ⟨w1.heap.size, 2, none⟩ = some (.slice A2 m c2)) 25 (by kernel_rfl) ?_ (fun hHeld => ?_)
                · first | exact HS2.out | assumption
                refine wpAnyL_take (i := 0) (v := ?_) (some 68) rfl rfl (by kernel_rfl) (by kernel_rfl) (by kernel_rfl) (by kernel_rfl) (fun _ _ _ h => h) (Or.inl ⟨by rfl, ?_⟩) (by assumption) ?_
                rotate_left
                · intro w hSw; (try dsimp only at hSw); go_simp; (try with_reducible rfl)
                try simp only [Act.put, List.setIfInBounds_toArray, List.set_cons_zero, List.set_cons_succ]
                refine wpAnyL_take (i := 1) (v := ?_) (some 69) rfl rfl (by kernel_rfl) (by kernel_rfl) (by kernel_rfl) (by kernel_rfl) (fun _ _ _ h => h) (Or.inl ⟨by rfl, ?_⟩) (by assumption) ?_
                rotate_left
                · intro w hSw; (try dsimp only at hSw); go_simp; (try with_reducible rfl)
                try simp only [Act.put, List.setIfInBounds_toArray, List.set_cons_zero, List.set_cons_succ]
                refine wpAnyL_take (i := 2) (v := ?_) (some 70) rfl rfl (by kernel_rfl) (by kernel_rfl) (by kernel_rfl) (by kernel_rfl) (fun _ _ _ h => h) (Or.inl ⟨by rfl, ?_⟩) (by assumption) ?_
                rotate_left
                · intro w hSw; (try dsimp only at hSw); go_simp; (try with_reducible rfl)
                try simp only [Act.put, List.setIfInBounds_toArray, List.set_cons_zero, List.set_cons_succ]
                refine wpAnyL_take (i := 3) (v := ?_) (some 71) rfl rfl (by kernel_rfl) (by kernel_rfl) (by kernel_rfl) (by kernel_rfl) (fun _ _ _ h => h) (Or.inl ⟨by rfl, ?_⟩) (by assumption) ?_
                rotate_left
                · intro w hSw; (try dsimp only at hSw); go_simp; (try with_reducible rfl)
                try simp only [Act.put, List.setIfInBounds_toArray, List.set_cons_zero, List.set_cons_succ]
                refine wpAnyL_take (i := 4) (v := ?_) (some 72) rfl rfl (by kernel_rfl) (by kernel_rfl) (by kernel_rfl) (by kernel_rfl) (fun _ _ _ h => h) (Or.inl ⟨by rfl, ?_⟩) (by assumption) ?_
                rotate_left
                · intro w hSw; (try dsimp only at hSw); go_simp; (try with_reducible rfl)
                try simp only [Act.put, List.setIfInBounds_toArray, List.set_cons_zero, List.set_cons_succ]
                refine wpAnyL_take (i := 5) (v := ?_) (some 73) rfl rfl (by kernel_rfl) (by kernel_rfl) (by kernel_rfl) (by kernel_rfl) (fun _ _ _ h => h) (Or.inl ⟨by rfl, ?_⟩) (by assumption) ?_
                rotate_left
                · intro w hSw; (try dsimp only at hSw); go_simp; (try with_reducible rfl)
                try simp only [Act.put, List.setIfInBounds_toArray, List.set_cons_zero, List.set_cons_succ]
                refine wpAnyL_take (i := 6) (v := ?_) (some 74) rfl rfl (by kernel_rfl) (by kernel_rfl) (by kernel_rfl) (by kernel_rfl) (fun _ _ _ h => h) (Or.inl ⟨by rfl, ?_⟩) (by assumption) ?_
                rotate_left
                · intro w hSw; (try dsimp only at hSw); go_simp; (try with_reducible rfl)
                try simp only [Act.put, List.setIfInBounds_toArray, List.set_cons_zero, List.set_cons_succ]
                refine wpAnyL_take (i := 7) (v := ?_) (some 75) rfl rfl (by kernel_rfl) (by kernel_rfl) (by kernel_rfl) (by kernel_rfl) (fun _ _ _ h => h) (Or.inl ⟨by rfl, ?_⟩) (by assumption) ?_
                rotate_left
                · intro w hSw; (try dsimp only at hSw); go_simp; (try with_reducible rfl)
                try simp only [Act.put, List.setIfInBounds_toArray, List.set_cons_zero, List.set_cons_succ]
                refine wpAnyL_take (i := 8) (v := ?_) (some 76) rfl rfl (by kernel_rfl) (by kernel_rfl) (by kernel_rfl) (by kernel_rfl) (fun _ _ _ h => h) (Or.inl ⟨by rfl, ?_⟩) (by assumption) ?_
                rotate_left
                · intro w hSw; (try dsimp only at hSw); go_simp; (try with_reducible rfl)
                try simp only [Act.put, List.setIfInBounds_toArray, List.set_cons_zero, List.set_cons_succ]
                refine wpAnyL_take (i := 9) (v := ?_) (some 77) rfl rfl (by kernel_rfl) (by kernel_rfl) (by kernel_rfl) (by kernel_rfl) (fun _ _ _ h => h) (Or.inl ⟨by rfl, ?_⟩) (by assumption) ?_
                rotate_left
                · intro w hSw; (try dsimp only at hSw); go_simp; (try with_reducible rfl)
                try simp only [Act.put, List.setIfInBounds_toArray, List.set_cons_zero, List.set_cons_succ]
                refine wpAnyL_take (i := 10) (v := ?_) (some 78) rfl rfl (by kernel_rfl) (by kernel_rfl) (by kernel_rfl) (by kernel_rfl) (fun _ _ _ h => h) (Or.inl ⟨by rfl, ?_⟩) (by assumption) ?_
                rotate_left
                · intro w hSw; (try dsimp only at hSw); go_simp; (try with_reducible rfl)
                try simp only [Act.put, List.setIfInBounds_toArray, List.set_cons_zero, List.set_cons_succ]
                refine wpAnyL_take (i := 11) (v := ?_) (some 79) rfl rfl (by kernel_rfl) (by kernel_rfl) (by kernel_rfl) (by kernel_rfl) (fun _ _ _ h => h) (Or.inl ⟨by rfl, ?_⟩) (by assumption) ?_
                rotate_left
                · intro w hSw; (try dsimp only at hSw); go_simp; (try with_reducible rfl)
                try simp only [Act.put, List.setIfInBounds_toArray, List.set_cons_zero, List.set_cons_succ]
                refine wpAnyL_take (i := 12) (v := ?_) (some 80) rfl rfl (by kernel_rfl) (by kernel_rfl) (by kernel_rfl) (by kernel_rfl) (fun _ _ _ h => h) (Or.inl ⟨by rfl, ?_⟩) (by assumption) ?_
                rotate_left
                · intro w hSw; (try dsimp only at hSw); go_simp; (try with_reducible rfl)
                try simp only [Act.put, List.setIfInBounds_toArray, List.set_cons_zero, List.set_cons_succ]
                refine wpAnyL_take (i := 13) (v := ?_) (some 81) rfl rfl (by kernel_rfl) (by kernel_rfl) (by kernel_rfl) (by kernel_rfl) (fun _ _ _ h => h) (Or.inl ⟨by rfl, ?_⟩) (by assumption) ?_
                rotate_left
                · intro w hSw; (try dsimp only at hSw); go_simp; (try with_reducible rfl)
                try simp only [Act.put, List.setIfInBounds_toArray, List.set_cons_zero, List.set_cons_succ]
                refine wpAnyL_take (i := 14) (v := ?_) (some 82) rfl rfl (by kernel_rfl) (by kernel_rfl) (by kernel_rfl) (by kernel_rfl) (fun _ _ _ h => h) (Or.inl ⟨by rfl, ?_⟩) (by assumption) ?_
                rotate_left
                · intro w hSw; (try dsimp only at hSw); go_simp; (try with_reducible rfl)
                try simp only [Act.put, List.setIfInBounds_toArray, List.set_cons_zero, List.set_cons_succ]
                refine wpAnyL_take (i := 15) (v := ?_) (some 83) rfl rfl (by kernel_rfl) (by kernel_rfl) (by kernel_rfl) (by kernel_rfl) (fun _ _ _ h => h) (Or.inl ⟨by rfl, ?_⟩) (by assumption) ?_
                rotate_left
                · intro w hSw; (try dsimp only at hSw); go_simp; (try with_reducible rfl)
                try simp only [Act.put, List.setIfInBounds_toArray, List.set_cons_zero, List.set_cons_succ]
                refine wpAnyL_take (i := 16) (v := ?_) (some 84) rfl rfl (by kernel_rfl) (by kernel_rfl) (by kernel_rfl) (by kernel_rfl) (fun _ _ _ h => h) (Or.inl ⟨by rfl, ?_⟩) (by assumption) ?_
                rotate_left
                · intro w hSw; (try dsimp only at hSw); go_simp; (try with_reducible rfl)
                try simp only [Act.put, List.setIfInBounds_toArray, List.set_cons_zero, List.set_cons_succ]
                refine wpAnyL_take (i := 17) (v := ?_) (some 85) rfl rfl (by kernel_rfl) (by kernel_rfl) (by kernel_rfl) (by kernel_rfl) (fun _ _ _ h => h) (Or.inl ⟨by rfl, ?_⟩) (by assumption) ?_
                rotate_left
                · intro w hSw; (try dsimp only at hSw); go_simp; (try with_reducible rfl)
                try simp only [Act.put, List.setIfInBounds_toArray, List.set_cons_zero, List.set_cons_succ]
                refine wpAnyL_take (i := 18) (v := ?_) (some 86) rfl rfl (by kernel_rfl) (by kernel_rfl) (by kernel_rfl) (by kernel_rfl) (fun _ _ _ h => h) (Or.inl ⟨by rfl, ?_⟩) (by assumption) ?_
                rotate_left
                · intro w hSw; (try dsimp only at hSw); go_simp; (try with_reducible rfl)
                try simp only [Act.put, List.setIfInBounds_toArray, List.set_cons_zero, List.set_cons_succ]
                refine wpAnyL_take (i := 19) (v := ?_) (some 87) rfl rfl (by kernel_rfl) (by kernel_rfl) (by kernel_rfl) (by kernel_rfl) (fun _ _ _ h => h) (Or.inl ⟨by rfl, ?_⟩) (by assumption) ?_
                rotate_left
                · intro w hSw; (try dsimp only at hSw); go_simp; (try with_reducible rfl)
                try simp only [Act.put, List.setIfInBounds_toArray, List.set_cons_zero, List.set_cons_succ]
                refine wpAnyL_take (i := 20) (v := ?_) (some 88) rfl rfl (by kernel_rfl) (by kernel_rfl) (by kernel_rfl) (by kernel_rfl) (fun _ _ _ h => h) (Or.inl ⟨by rfl, ?_⟩) (by assumption) ?_
                rotate_left
                · intro w hSw; (try dsimp only at hSw); go_simp; (try with_reducible rfl)
                try simp only [Act.put, List.setIfInBounds_toArray, List.set_cons_zero, List.set_cons_succ]
                refine wpAnyL_take (i := 21) (v := ?_) (some 89) rfl rfl (by kernel_rfl) (by kernel_rfl) (by kernel_rfl) (by kernel_rfl) (fun _ _ _ h => h) (Or.inl ⟨by rfl, ?_⟩) (by assumption) ?_
                rotate_left
                · intro w hSw; (try dsimp only at hSw); go_simp; (try with_reducible rfl)
                try simp only [Act.put, List.setIfInBounds_toArray, List.set_cons_zero, List.set_cons_succ]
                refine wpAnyL_one (i := 22) (by kernel_rfl) rfl (fun K hK => ?_)
                go_simp
                refine hK.out _ _ ?_ (fun hHeld => ?_)
                · first | exact HS2.out | assumption
                clear hK K
                try simp only [Act.put, List.setIfInBounds_toArray, List.set_cons_zero, List.set_cons_succ]
                refine wpAnyL_one (i := 23) (by kernel_rfl) rfl (fun K hK => ?_)
                (refine step_append_row _ rfl _ _ 22 rfl (w1.heap.size + 1) 5 i0 (.int .u8 0) 1 1 Try.underlying22 hi hi0 hi1 hi2 rfl (by decide) (.slice A2 m c2) m _ rfl (HOUT.out.own.kept (Below.refl _ wr).drew) (A'.map (·.add M)) q.a.toNat (c' - M) (bytesV (rowOf q.a.toNat q.g k2)) rfl (by rw [bytesV_length, HRM.out, Nat.mul_one]) (Q9.out _ (Below.refl _ wr).drew) (bytesV_one _) (by unfold maxLen; omega) (by omega) (by show w1.heap.size + 1 ≤ wr.heap.size; omega) ?_; intro v5 w5 hown5 hg5 hat5; have hb5 : Below (w1.heap.size + 1) wr w5 := below_append ((Below.refl _ wr).drew.mono (by show w1.heap.size + 1 ≤ wr.heap.size; omega)) (HOUT.out.own.kept (Below.refl _ wr).drew) (Nat.le_refl _) (by show w1.heap.size + 1 ≤ wr.heap.size; omega) hg5; obtain ⟨A5, c5, rfl, -, -, -, -, -⟩ := hown5.form; have hS6 := SK.out w5 hb5; have ef := (hb5.frozen (p := ⟨w1.heap.size, 2, none⟩) (by simp)).trans HOUT.out.free)
                refine hK.out _ _ ?_ (fun hHeld => ?_)
                · first | exact HS2.out | assumption
                clear hK K
                try simp only [Act.put, List.setIfInBounds_toArray]
                refine wpAnyL_one (i := 24) (by kernel_rfl) rfl (fun K hK => ?_)
                go_simp
                refine hK.out _ _ ?_ (fun hHeld => ?_)
                · first | exact HS2.out | assumption
                clear hK K
                try simp only [Act.put, List.setIfInBounds_toArray, List.set_cons_zero, List.set_cons_succ]
                refine wpAnyL_end (by kernel_rfl) rfl (fun K hK => ?_)
                go_simp
                refine hK.out _ _ ?_
                clear hK K
                try simp only [Act.put, List.setIfInBounds_toArray, List.set_cons_zero, List.set_cons_succ]
                refine wpAnyL_done (by kernel_rfl) ?_ _
                have HG := hide (HOUT.out.grow hb5 hown5)
                clear hown5 hg5 hat5 ef hb5 hS6
                go_wp2
                go_roundg g3
                case measure => omega
                case rel =>
                  refine ⟨j + 1, m + q.a.toNat, A5, c5, by omega, by go_num, ?_⟩
                  have h9 := HG.out
                  rw [List.append_assoc, ← HNX.out] at h9
                  exact h9
    | succ gh =>
      have hlt : (k : Int) < L := by omega
      obtain ⟨q, hqk⟩ : ∃ q, qs[k]? = some q := ⟨_, List.getElem?_eq_getElem (by have := HL.out; omega)⟩
      obtain ⟨b', off', A', n, c', hA', hb', c0', c1', c2', hpa⟩ := (HP.out.kept hkw).at_ hqk
      injection hA' with hA'
      injection hA' with hA1 hA2
      subst hA1
      subst hA2
      have hsum := (sums_le HE.out k (by have := HL.out; omega)).2
      have hbq := mayB_bounds (may_of_allE HE.out hqk)
      obtain ⟨s1, s2⟩ := hsum
      obtain ⟨y1, y2, y3, y4, -, -, -⟩ := hbq
      have HQK := hide hqk
      have hnx := hide (sumA_next hqk)
      generalize sumA (qs.take k) = S at *
      clear hqk hpa
      have HOO := hide (And.intro o0 (And.intro o1 (And.intro o2 (And.intro of1 of2))))
      have hbk : b < w1.heap.size := by omega
      by_cases hqa : q.d = p.d
      · have hq1 : (q.d != p.d) = false := by simp [hqa]
        have HQA := hide hqa
        clear hqa
        go_upto_region 8 with fail
        go_cut [33] (fun v wx => v = .bool false ∧ Kept wr wx)
        case first =>
          go_quiet (fail)
          go_wp2_with fail
          go_meet
          exact ⟨rfl, drewN_below (Below.refl _ _) _⟩
        case rest =>
        obtain ⟨rfl, hkc⟩ := hcut
        rename World => wx
        have HKC := hide hkc
        have d1 := (hkc.cells b (off + k * 3) (lt_of_cell c0')).trans c0'
        have d2 := (hkc.cells w1.heap.size 0 (lt_of_cell o0)).trans o0
        have df := (hkc.thaw w1.heap.size 0 (lt_of_cell o0)).trans of1
        have k1 : IntKind.i64.wrap (S + q.a) = S + q.a := IntWalk.i64_in _ (by omega)
        have HS2 := hide (And.intro d1 d2)
        clear hkc c0' c1' c2' o0 o1 o2 of1 of2 r0 r1 r2 f0 f1 f2 hrl hkw
        go_wp2_with fail
        refine wp_region_L (fun X => X.cell? ⟨b, off + k * 3, none⟩ = some (.int .i64 q.a) ∧ X.cell? ⟨w1.heap.size, 0, none⟩ = some (.int .i64 S)) 9 (by kernel_rfl) ?_ (fun hHeld => ?_)
        · first | exact HS2.out | assumption
        refine wpAnyL_take (i := 0) (v := ?_) (some 35) rfl rfl (by kernel_rfl) (by kernel_rfl) (by kernel_rfl) (by kernel_rfl) (fun _ _ _ h => h) (Or.inl ⟨by rfl, ?_⟩) (by assumption) ?_
        rotate_left
        · intro w hSw; (try dsimp only at hSw); go_simp; (try with_reducible rfl)
        try simp only [Act.put, List.setIfInBounds_toArray, List.set_cons_zero, List.set_cons_succ]
        refine wpAnyL_take (i := 1) (v := ?_) (some 36) rfl rfl (by kernel_rfl) (by kernel_rfl) (by kernel_rfl) (by kernel_rfl) (fun _ _ _ h => h) (Or.inl ⟨by rfl, ?_⟩) (by assumption) ?_
        rotate_left
        · intro w hSw; (try dsimp only at hSw); go_simp; (try with_reducible rfl)
        try simp only [Act.put, List.setIfInBounds_toArray, List.set_cons_zero, List.set_cons_succ]
        refine wpAnyL_take (i := 2) (v := ?_) (some 37) rfl rfl (by kernel_rfl) (by kernel_rfl) (by kernel_rfl) (by kernel_rfl) (fun _ _ _ h => h) (Or.inl ⟨by rfl, ?_⟩) (by assumption) ?_
        rotate_left
        · intro w hSw; (try dsimp only at hSw); go_simp; (try with_reducible rfl)
        try simp only [Act.put, List.setIfInBounds_toArray, List.set_cons_zero, List.set_cons_succ]
        refine wpAnyL_take (i := 3) (v := ?_) (some 38) rfl rfl (by kernel_rfl) (by kernel_rfl) (by kernel_rfl) (by kernel_rfl) (fun _ _ _ h => h) (Or.inl ⟨by rfl, ?_⟩) (by assumption) ?_
        rotate_left
        · intro w hSw; (try dsimp only at hSw); go_simp; (try with_reducible rfl)
        try simp only [Act.put, List.setIfInBounds_toArray, List.set_cons_zero, List.set_cons_succ]
        refine wpAnyL_take (i := 4) (v := ?_) (some 39) rfl rfl (by kernel_rfl) (by kernel_rfl) (by kernel_rfl) (by kernel_rfl) (fun _ _ _ h => h) (Or.inl ⟨by rfl, ?_⟩) (by assumption) ?_
        rotate_left
        · intro w hSw; (try dsimp only at hSw); go_simp; (try with_reducible rfl)
        try simp only [Act.put, List.setIfInBounds_toArray, List.set_cons_zero, List.set_cons_succ]
        refine wpAnyL_take (i := 5) (v := ?_) (some 40) rfl rfl (by kernel_rfl) (by kernel_rfl) (by kernel_rfl) (by kernel_rfl) (fun _ _ _ h => h) (Or.inl ⟨by rfl, ?_⟩) (by assumption) ?_
        rotate_left
        · intro w hSw; (try dsimp only at hSw); go_simp; (try with_reducible rfl)
        try simp only [Act.put, List.setIfInBounds_toArray, List.set_cons_zero, List.set_cons_succ]
        refine wpAnyL_take (i := 6) (v := ?_) (some 41) rfl rfl (by kernel_rfl) (by kernel_rfl) (by kernel_rfl) (by kernel_rfl) (fun _ _ _ h => h) (Or.inl ⟨by rfl, ?_⟩) (by assumption) ?_
        rotate_left
        · intro w hSw; (try dsimp only at hSw); go_simp; (try with_reducible rfl)
        try simp only [Act.put, List.setIfInBounds_toArray, List.set_cons_zero, List.set_cons_succ]
        refine wpAnyL_take (i := 7) (v := ?_) (some 42) rfl rfl (by kernel_rfl) (by kernel_rfl) (by kernel_rfl) (by kernel_rfl) (fun _ _ _ h => h) (Or.inl ⟨by rfl, ?_⟩) (by assumption) ?_
        rotate_left
        · intro w hSw; (try dsimp only at hSw); go_simp; (try with_reducible rfl)
        try simp only [Act.put, List.setIfInBounds_toArray, List.set_cons_zero, List.set_cons_succ]
        refine wpAnyL_take (i := 8) (v := ?_) (some 43) rfl rfl (by kernel_rfl) (by kernel_rfl) (by kernel_rfl) (by kernel_rfl) (fun _ _ _ h => h) (Or.inl ⟨by rfl, ?_⟩) (by assumption) ?_
        rotate_left
        · intro w hSw; (try dsimp only at hSw); go_simp; (try with_reducible rfl)
        try simp only [Act.put, List.setIfInBounds_toArray, List.set_cons_zero, List.set_cons_succ]
        refine wpAnyL_end (by kernel_rfl) rfl (fun K hK => ?_)
        go_simp
        refine hK.out _ _ ?_
        clear hK K
        try simp only [Act.put, List.setIfInBounds_toArray, List.set_cons_zero, List.set_cons_succ]
        refine wpAnyL_done (by kernel_rfl) ?_ _
        go_wp2
        go_roundg gh
        case measure => omega
        case rel =>
          obtain ⟨o0, o1, o2, of1, of2⟩ := HOO.out
          have hkc := HKC.out
          have hsz : w1.heap.size < (wx.setCell ⟨w1.heap.size, 0, none⟩ (.int .i64 (S + q.a))).heap.size := by have := hkc.size; simp [World.setCell]; omega
          have hK1 := hkc
          have x0 := (hkc.cells w1.heap.size 0 hwz).trans o0
          have x1 := (hkc.cells w1.heap.size 1 hwz).trans o1
          have x2 := (hkc.cells w1.heap.size 2 hwz).trans o2
          have xf1 := (hkc.thaw w1.heap.size 0 hwz).trans of1
          have xf2 := (hkc.thaw w1.heap.size 2 hwz).trans of2
          refine ⟨k + 1, by omega, by go_num, ?_, ?_, ?_, ?_, ?_, fun i q' hi hq' => ?_, hsz, ((hbw.trans (hkc.mono (by omega))).setCell (by simp) _).drew⟩
          · show (World.setCell wx _ _).cell? _ = _; rw [World.cell?_setCell_same _ _ _ x0, hnx.out]
          · show (World.setCell wx _ _).cell? _ = _; rw [World.cell?_setCell_other _ _ _ _ (by simp)]; exact x1
          · show (World.setCell wx _ _).cell? _ = _; rw [World.cell?_setCell_other _ _ _ _ (by simp)]; exact x2
          · show (World.setCell wx _ _).frozen? _ = _; rw [World.frozen?_setCell]; exact xf1
          · show (World.setCell wx _ _).frozen? _ = _; rw [World.frozen?_setCell]; exact xf2
          · by_cases hik : i = k
            · subst hik
              rw [HQK.out] at hq'
              injection hq' with hq'
              subst hq'
              exact HQA.out
            · exact HI.out i q' (by omega) hq'
      · have hq1 : (q.d != p.d) = true := by simp [hqa]
        have HQA := hide hqa
        clear hqa
        go_upto_region 8 with fail
        go_cut [33] (fun v wx => v = .bool true ∧ Kept wr wx)
        case first =>
          go_quiet (fail)
          go_wp2_with fail
          go_meet
          exact ⟨rfl, drewN_below (Below.refl _ _) _⟩
        case rest =>
        obtain ⟨rfl, hkc⟩ := hcut
        rename World => wx
        have RX := RES.out.below (hkc.mono (by omega)) hlt0
        have u0 := RX.r0
        have u1 := RX.r1
        have u2 := RX.r2
        have v0 := RX.f0
        have v5 := RX.f1
        have v6 := RX.f2
        have vl := RX.lt
        have RS := hide RX
        clear RX hkc r0 r1 r2 f0 f1 f2 hrl
        go_wp2_with fail
        exact bodyPost_ret (v := .tuple #[.agg #[.int .i64 0, .int .i64 0, .slice none 0 0], .int .i64 291]) (by simp [results, Try.results30, go_sem, u0, u1, u2, vl]) rfl (by
          have hE1 : besideE qs = 291 := by
            rw [HB.out, if_neg]
            intro h
            have := List.all_eq_true.1 h q (List.mem_of_getElem? HQK.out)
            exact HQA.out (by simpa using this)
          rw [hE1]
          exact PutPost.err (by omega) (RS.out.stored _ _ _))
theorem rbeside_any (A : Option Addr) (c : Nat) (ps : List PicD) (w : World) (hp : Pics w A ps) (hl : ps.length ≤ 1000000) :
    Calls Try.prog 30 #[.slice A ps.length c] w (PutPost w (besideE ps) (besideP ps)) := by
  cases ps with
  | nil => exact rbeside_bad A c [] _ 2 w hp (by omega) rfl (by omega) (by omega)
  | cons p ps =>
    rcases allE_two (p :: ps) with h | h
    · exact rbeside_right A c p ps w hp hl h
    · have := rbeside_bad A c (p :: ps) (besideP (p :: ps)) 290 w hp (by omega) (by simp [wrongE, h]) (by omega) (by omega)
      rwa [show besideE (p :: ps) = 290 by simp [besideE, h]]
end Go.Proofs.Ytbhgcbgaadnfpaa
