/- The reference's wrong and Below, walked. -/
import Derived.Test.YtbhgcbgaadnfpaaBesW
import Derived.Test.YtbhgcbgaadnfpaaRefA
namespace Go.Proofs.Ytbhgcbgaadnfpaa
open Go.RowKit

def wrongE (ps : List PicD) : Int := if ps = [] then 2 else allE ps

set_option maxRecDepth 100000 in
set_option maxHeartbeats 400000 in
theorem rwrong_any (A : Option Addr) (c : Nat) (ps : List PicD) (w : World) (hp : Pics w A ps) (hl : ps.length ≤ 1000000000) :
    Calls Try.prog 55 #[.slice A ps.length c] w fun e w' => e = .returned (.int .i64 (wrongE ps)) ∧ Kept w w' := by
  by_cases h0 : ps = []
  · subst h0
    go_enter Try.func55, Try.ntmps55
    go_wp2
    go_ret
    exact ⟨rfl, Below.refl _ _⟩
  obtain ⟨L, hL⟩ : ∃ L, L = ps.length := ⟨_, rfl⟩
  have hLp : 0 < L := by rw [hL]; exact List.length_pos_iff.2 h0
  have hL0 : ((L : Int) == 0) = false := by simp; omega
  have HW : Hid (wrongE ps = allE ps) := by show _ = _; simp [wrongE, h0]
  rw [← hL] at hl ⊢
  have HL := hide hL
  clear hL h0
  go_enter Try.func55, Try.ntmps55
  go_wp2
  go_loopg [3] L (fun gh ix wr => ∃ k : Nat, k + gh = L ∧ ix = .int .i64 k ∧ Hid (∀ (i : Nat) (p : PicD), i < k → ps[i]? = some p → mayB p.a p.d p.g.length = true) ∧ Kept w wr)
  case atStart => exact ⟨0, by omega, rfl, fun i p hi => by omega, Below.refl _ _⟩
  case round =>
    obtain ⟨k, hkg, rfl, HI, hk⟩ := hrel
    cases gk with
    | zero =>
      have hge : ¬ (k : Int) < L := by omega
      go_wp2
      go_ret
      exact ⟨int_ret (by rw [HW.out]; exact (allE_all (fun i p hi => HI.out i p (by have := (List.getElem?_eq_some_iff.1 hi).1; have := HL.out; omega) hi)).symm), hk⟩
    | succ gh =>
      have hlt : (k : Int) < L := by omega
      obtain ⟨p, hpk⟩ : ∃ p, ps[k]? = some p := ⟨_, List.getElem?_eq_getElem (by have := HL.out; omega)⟩
      obtain ⟨b, off, A', n, c', rfl, hb, c0, c1, c2, hpa⟩ := (hp.kept hk).at_ hpk
      have HPK := hide hpk
      clear hpk
      have n1 := hpa.a0
      have n2 := hpa.a1
      have n3 := hpa.d0
      have n4 := hpa.d1
      have n5 := hpa.max
      have HPA := hide hpa.len
      cases hm : mayB p.a p.d n with
      | false =>
        have HM := hide hm
        clear hpa hm
        go_wp2_with (go_at_call 24; refine (may_any _ _ _ _ _ _ n1 n2 n3 n4 n5).mono ?_; rintro e w1 ⟨rfl, hk1⟩; rw [HM.out])
        go_ret
        exact ⟨int_ret (by rw [HW.out]; exact (allE_at HPK.out (by rw [HPA.out]; exact HM.out)).symm), hk.trans (hk1.mono hk.size)⟩
      | true =>
        have HM := hide hm
        clear hm hpa
        go_wp2_with (go_at_call 24; refine (may_any _ _ _ _ _ _ n1 n2 n3 n4 n5).mono ?_; rintro e w1 ⟨rfl, hk1⟩; rw [HM.out])
        go_roundg gh
        case measure => omega
        case rel =>
          refine ⟨k + 1, by omega, by go_num, fun i q hi hq => ?_, hk.trans (hk1.mono hk.size)⟩
          by_cases hik : i = k
          · subst hik
            rw [HPK.out] at hq
            injection hq with hq
            subst hq
            rw [HPA.out]; exact HM.out
          · exact HI.out i q (by omega) hq

/-- The reference's way to ask a size. -/
theorem size_ref {a d : Int} (ha : 1 ≤ a) (hd : 1 ≤ d) (ham : a ≤ 4194304) : sizeB a d = !(decide (4194304 < d) || decide (4194304 < a * d)) := by
  rw [Bool.eq_iff_iff, sizeB_iff]
  have h1 : 1 * d ≤ a * d := Int.mul_le_mul_of_nonneg_right ha (by omega)
  simp only [Bool.not_eq_true', Bool.or_eq_false_iff, decide_eq_false_iff_not]
  constructor
  · rintro ⟨-, -, -, h⟩
    have := (Int.le_ediv_iff_mul_le (by omega)).1 h
    rw [Int.mul_comm] at this
    omega
  · rintro ⟨h, h2⟩
    exact ⟨ha, hd, ham, (Int.le_ediv_iff_mul_le (by omega)).2 (by rw [Int.mul_comm]; omega)⟩

set_option maxRecDepth 100000 in
set_option maxHeartbeats 400000 in
theorem rbelow_bad (A : Option Addr) (c : Nat) (ps : List PicD) (P : PicD) (E : Int) (w : World) (hp : Pics w A ps) (hl : ps.length ≤ 1000000000) (hE : wrongE ps = E) (hE0 : E ≠ 0) (hb : -9223372036854775808 ≤ E ∧ E ≤ 9223372036854775807) :
    Calls Try.prog 32 #[.slice A ps.length c] w (PutPost w E P) := by
  have CALL : Hid (∀ W, Kept w W → Calls Try.prog 55 #[.slice A ps.length c] W fun e w' => e = .returned (.int .i64 E) ∧ Kept W w') := fun W hW => by
    have := rwrong_any A c ps W (hp.kept hW) hl
    rwa [hE] at this
  have hne : (E != 0) = true := by simp [hE0]
  have HE := hide hE0
  obtain ⟨L, hL⟩ : ∃ L, L = ps.length := ⟨_, rfl⟩
  rw [← hL] at CALL ⊢
  have R0 := hide (Res0.new w w 24 (Below.refl _ _))
  clear hL hE hp hE0 hl hb
  go_enter Try.func32, Try.ntmps32
  go_wp2_with (go_at_call 55; refine (CALL.out _ ((Below.refl _ _).alloc (Nat.le_refl _) _)).mono ?_; rintro e w1 ⟨rfl, hk1⟩; have R1 := R0.out.below hk1 (by simp); have t0 := R1.r0; have t1 := R1.r1; have t2 := R1.r2; have g0 := R1.f0; have g1 := R1.f1; have g2 := R1.f2; have R2 := hide R1; clear R1)
  exact bodyPost_ret (v := .tuple #[.agg #[.int .i64 0, .int .i64 0, .slice none 0 0], .int .i64 E]) (by simp [results, Try.results32, go_sem, t0, t1, t2]) rfl (PutPost.err HE.out (R2.out.stored _ _ _))

set_option maxRecDepth 100000 in
set_option maxHeartbeats 1600000 in
theorem rbelow_right (A : Option Addr) (c : Nat) (p : PicD) (ps : List PicD) (w : World) (hp : Pics w A (p :: ps)) (hl : (p :: ps).length ≤ 1000000) (hE : allE (p :: ps) = 0) :
    Calls Try.prog 32 #[.slice A (p :: ps).length c] w (PutPost w (belowE (p :: ps)) (belowP (p :: ps))) := by
  have call : ∀ W, Kept w W → Calls Try.prog 55 #[.slice A (p :: ps).length c] W fun e w' => e = .returned (.int .i64 0) ∧ Kept W w' := fun W hW => by
    have := rwrong_any A c (p :: ps) W (hp.kept hW) (by omega)
    rwa [show wrongE (p :: ps) = 0 by simp [wrongE, hE]] at this
  obtain ⟨i0, hi, hi0, hi1, hi2⟩ := info_parts info_u8
  obtain ⟨qs, hqs⟩ : ∃ qs, qs = p :: ps := ⟨_, rfl⟩
  have hq0 : qs[0]? = some p := by rw [hqs]; rfl
  have HB : Hid (belowE qs = if qs.all (fun q => q.a == p.a) then (if sizeB p.a (sumD qs) then 0 else 4) else 291) := by show _ = _; rw [hqs]; simp [belowE, hE]
  have HBP : Hid (belowP qs = ⟨p.a, sumD qs, allG qs⟩) := by show _ = _; rw [hqs]; rfl
  rw [← hqs] at call hl hp hE ⊢
  clear hqs
  obtain ⟨L, hL⟩ : ∃ L, L = qs.length := ⟨_, rfl⟩
  have hLp : 0 < L := by rw [hL]; have := (List.getElem?_eq_some_iff.1 hq0).1; omega
  have hL0 : ((L : Int) == 0) = false := by simp; omega
  have hL1 : (0 : Int) < (L : Int) := by omega
  rw [← hL] at call hl ⊢
  have CALL := hide call
  have HL := hide hL
  have HE := hide hE
  have R0 := hide (Res0.new w w 24 (Below.refl _ _))
  obtain ⟨b, off, A0, n0, d0, rfl, hb, c0, c1, c2, hpa⟩ := hp.at_ hq0
  have HP := hide hp
  simp only [Nat.zero_mul, Nat.add_zero] at c0
  have hbnd := mayB_bounds (may_of_allE hE hq0)
  obtain ⟨v1, v2, v3, v4, -, -, -⟩ := hbnd
  clear hL hE hp call hpa c1 c2
  have HQ0 := hide hq0
  clear hq0
  go_enter Try.func32, Try.ntmps32
  go_upto_region 5 with (go_at_call 55; refine (CALL.out _ ((Below.refl _ _).alloc (Nat.le_refl _) _)).mono ?_; rintro e w1 ⟨rfl, hk1⟩; have k0 := (hk1.cells b off (by simp; omega)).trans ((World.cell?_alloc_lt w _ ⟨b, off, none⟩ hb).trans c0); have R1 := hide (R0.out.below hk1 (by simp)); have hz1 := hk1.size; simp at hz1)
  have BOX : ∀ W, Below w1.heap.size w1 W → Res0 w W w.heap.size ∧ Kept w W := fun W hW => by
    have h1 := R1.out.below hW R1.out.lt
    exact ⟨h1, h1.kept⟩
  have HBOX := hide BOX
  have hlt0 : w.heap.size < w1.heap.size := R1.out.lt
  clear BOX hk1 R0 R1 k0
  go_wp2
  go_loopg [6] L (fun gh ix wr => ∃ k : Nat, k + gh = L ∧ ix = .int .i64 k ∧ wr.cell? ⟨w1.heap.size, 0, none⟩ = some (.int .i64 p.a) ∧ wr.cell? ⟨w1.heap.size, 1, none⟩ = some (.int .i64 (sumD (qs.take k))) ∧ wr.cell? ⟨w1.heap.size, 2, none⟩ = some (.slice none 0 0) ∧
    wr.frozen? ⟨w1.heap.size, 1, none⟩ = false ∧ wr.frozen? ⟨w1.heap.size, 2, none⟩ = false ∧ Hid (∀ (i : Nat) (q : PicD), i < k → qs[i]? = some q → q.a = p.a) ∧ w1.heap.size < wr.heap.size ∧ Below w1.heap.size w1 wr)
  case atStart =>
    have hh : (w1.alloc (.cells #[.int .i64 p.a, .int .i64 0, .slice none 0 0] 24)).heap[w1.heap.size]? = some (.cells #[.int .i64 p.a, .int .i64 0, .slice none 0 0] 24) := by
      show (w1.heap.push _)[w1.heap.size]? = _
      simp
    refine ⟨0, by omega, rfl, by simp, by simp [sumD, sumI], by simp, ?_, ?_, fun i q hi => by omega, by simp, (Below.refl _ _).alloc (Nat.le_refl _) _⟩ <;> (simp only [World.frozen?, hh]; rfl)
  case round =>
    obtain ⟨k, hkg, rfl, o0, o1, o2, of1, of2, HI, hwz, hbw⟩ := hrel
    obtain ⟨⟨r0, r1, r2, f0, f1, f2, hrl, -, -⟩, hkw⟩ := HBOX.out wr hbw
    have RES := hide (HBOX.out wr hbw).1
    cases gk with
    | zero =>
      have hge : ¬ (k : Int) < L := by omega
      have hkL : k = L := by omega
      have hsame : qs.all (fun q => q.a == p.a) = true := by
        rw [List.all_eq_true]
        intro q hq
        obtain ⟨i, hi⟩ := List.getElem?_of_mem hq
        have := HI.out i q (by have := (List.getElem?_eq_some_iff.1 hi).1; have := HL.out; omega) hi
        simp [this]
      have htk : qs.take k = qs := List.take_of_length_le (by have := HL.out; omega)
      rw [htk] at o1
      have hsum := (sums_le HE.out L (by have := HL.out; omega)).1
      rw [← hkL, htk] at hsum
      obtain ⟨s1, s2⟩ := hsum
      have HB2 : Hid (belowE qs = if sizeB p.a (sumD qs) then 0 else 4) := by show _ = _; rw [HB.out, if_pos hsame]
      have hgl : ∀ q ∈ qs, (q.g.length : Int) = p.a * q.d := fun q hq => by
        obtain ⟨i, hi⟩ := List.getElem?_of_mem hq
        have h1 := HI.out i q (by have := (List.getElem?_eq_some_iff.1 hi).1; have := HL.out; omega) hi
        have h2 := (mayB_bounds (may_of_allE HE.out hi)).2.2.2.2.1
        rw [h2, h1]
      have HGL := hide hgl
      clear hgl hsame htk hkL
      obtain ⟨S, hS⟩ : ∃ S, S = sumD qs := ⟨_, rfl⟩
      rw [← hS] at o1 s1 s2
      have HS := hide hS
      clear hS
      have s3 : 1 ≤ S := by
        have h1 := HS.out
        have h2 : ∃ r, qs = p :: r := by
          cases hqq : qs with
          | nil => have := HQ0.out; rw [hqq] at this; simp at this
          | cons y r => have := HQ0.out; rw [hqq] at this; simp at this; subst this; exact ⟨r, rfl⟩
        obtain ⟨r, hr⟩ := h2
        have h3 : ∀ x ∈ r.map (·.d), 0 ≤ x ∧ x ≤ 4194304 := fun x hx => by
          obtain ⟨q, hq, rfl⟩ := List.mem_map.1 hx
          obtain ⟨i, hi⟩ := List.getElem?_of_mem (show q ∈ qs by rw [hr]; exact List.mem_cons_of_mem _ hq)
          have := mayB_bounds (may_of_allE HE.out hi); omega
        have h4 := (sumI_nonneg _ h3).1
        have h5 : sumD qs = p.d + sumI (r.map (·.d)) := by rw [hr]; rfl
        omega
      have hsr := size_ref (a := p.a) (d := S) v1 s3 v2
      have QQ : ¬ 4194304 < S → IntKind.i64.wrap (p.a * S) = p.a * S := fun h => by
        have m1 : 0 ≤ p.a * S := Int.mul_nonneg (by omega) (by omega)
        have m2 : p.a * S ≤ 4194304 * 4194304 := Int.mul_le_mul v2 (by omega) (by omega) (by omega)
        exact IntWalk.i64_in _ (by omega)
      have HQQ := hide QQ
      clear QQ
      cases hz : sizeB p.a S with
      | false =>
        rw [hz] at hsr
        have hbad : 4194304 < S ∨ 4194304 < p.a * S := by
          have := hsr.symm
          simp only [Bool.not_eq_false', Bool.or_eq_true, decide_eq_true_eq] at this
          exact this
        have HZ := hide hz
        clear hsr hz
        rcases (show 4194304 < S ∨ (¬ 4194304 < S ∧ 4194304 < p.a * S) by omega) with hb1 | ⟨hb1, hb2⟩
        all_goals
          clear hbad
          try have q1 := HQQ.out hb1
          go_wp2_with fail
          exact bodyPost_ret (v := .tuple #[.agg #[.int .i64 0, .int .i64 0, .slice none 0 0], .int .i64 4]) (by simp [results, Try.results32, go_sem, r0, r1, r2]) rfl (by
            rw [HB2.out, ← HS.out, HZ.out]
            exact PutPost.err (E := 4) (by omega) (RES.out.stored _ _ _))
      | true =>
        have hE0 : belowE qs = 0 := by rw [HB2.out, ← HS.out, hz]; rfl
        obtain ⟨z1, z2, z3, z4, z5, z6⟩ := sizeB_bounds hz
        have nb1 : ¬ 4194304 < S := by omega
        have nb2 : ¬ 4194304 < p.a * S := by omega
        have q1 := HQQ.out nb1
        have HE0 := hide hE0
        clear hE0 hsr hz
        go_wp2_with fail
        clear r0 r1 r2 f0 f1 f2 hrl RES hkw
        go_loopg [7] L (fun gh ix wy => ∃ (j m : Nat) (A2 : Option Addr) (c2 : Nat), j + gh = L ∧ ix = .int .i64 j ∧ wy.cell? ⟨w1.heap.size, 0, none⟩ = some (.int .i64 p.a) ∧ wy.cell? ⟨w1.heap.size, 1, none⟩ = some (.int .i64 S) ∧ wy.cell? ⟨w1.heap.size, 2, none⟩ = some (.slice A2 m c2) ∧
          wy.frozen? ⟨w1.heap.size, 2, none⟩ = false ∧ Own wy (w1.heap.size + 1) 1 (.slice A2 m c2) m (bytesV (allG (qs.take j))) ∧ w1.heap.size < wy.heap.size ∧ Below w1.heap.size w1 wy)
        case atStart => exact ⟨0, 0, none, 0, by omega, rfl, o0, o1, o2, of2, by simpa [allG, bytesV] using Own.nil _ _ _, hwz, hbw⟩
        case round =>
          clear o0 o1 o2 of1 of2 hwz hbw
          obtain ⟨j, m, A2, c2, hjg, rfl, o0, o1, o2, of2, hown, hwz, hbw⟩ := hrel
          obtain ⟨⟨r0, r1, r2, f0, f1, f2, hrl, -, -⟩, hkw⟩ := HBOX.out wr hbw
          have RES := hide (HBOX.out wr hbw).1
          cases gk with
          | zero =>
            have hge : ¬ (j : Int) < L := by omega
            have htk : qs.take j = qs := List.take_of_length_le (by have := HL.out; omega)
            rw [htk] at hown
            have HO := hide hown
            clear hown htk
            go_wp2
            exact bodyPost_ret (v := .tuple #[.agg #[.int .i64 p.a, .int .i64 S, .slice A2 m c2], .int .i64 0]) (by simp [results, Try.results32, go_sem, r0, r1, r2]) rfl (by
              have hm : m = (allG qs).length := by have := HO.out.1; rw [bytesV_length] at this; omega
              have hP := PutPost.ok (p := belowP qs) (v := .slice A2 m c2) (w := w) (w' := (((wr.setCell ⟨w.heap.size, 0, none⟩ (.int .i64 p.a)).setCell ⟨w.heap.size, 1, none⟩ (.int .i64 S)).setCell ⟨w.heap.size, 2, none⟩ (.slice A2 m c2))) (by
                rw [HBP.out]
                show Own _ _ 1 _ (allG qs).length _
                rw [← hm]
                have hne : ∀ k, (Value.slice A2 m c2).ownBlock = some k → k ≠ w.heap.size := fun k hk => by have := (HO.out.lt k hk).1; omega
                exact (((HO.out.less (base' := w.heap.size) (by omega)).far (p := ⟨w.heap.size, 0, none⟩) hne _).far (p := ⟨w.heap.size, 1, none⟩) hne _).far (p := ⟨w.heap.size, 2, none⟩) hne _) (RES.out.stored _ _ _)
              rw [HE0.out]
              rw [HBP.out, ← HS.out] at hP ⊢
              exact hP)
          | succ g2 =>
            have hlt : (j : Int) < L := by omega
            obtain ⟨q, hqk⟩ : ∃ q, qs[j]? = some q := ⟨_, List.getElem?_eq_getElem (by have := HL.out; omega)⟩
            obtain ⟨b', off', A', n, c', hA', hb', c0', c1', c2', hpa⟩ := (HP.out.kept hkw).at_ hqk
            injection hA' with hA'
            injection hA' with hA1 hA2
            subst hA1
            subst hA2
            have hnl := hpa.len
            have hnr := hpa.row
            have hnx := allG_next hqk
            have hmb : m + n ≤ 4194304 := by
              have h1 := allG_take_le (a0 := p.a) (by omega) HGL.out (by rw [← HS.out]; exact z6) (j + 1)
              rw [hnx, List.length_append] at h1
              have h2 := hown.1
              rw [bytesV_length] at h2
              omega
            have HNL := hide (And.intro hnl hnx)
            have HOWN := hide hown
            have HNR := hide hnr
            have HB3 := hide (And.intro o0 (And.intro o1 (And.intro o2 of2)))
            have HS2 := hide (And.intro c2' o2)
            have hzw := hwz
            have hbk : b < w1.heap.size := by omega
            clear hnl hnr hnx hqk hpa r0 r1 r2 f0 f1 f2 hrl hkw
            have SK : Hid (∀ W, Below (w1.heap.size + 1) wr W → W.cell? ⟨b, off + j * 3 + 2, none⟩ = some (.slice A' n c') ∧ W.cell? ⟨w1.heap.size, 2, none⟩ = some (.slice A2 m c2)) := by
              intro W hW
              exact ⟨(hW.cell (p := ⟨b, off + j * 3 + 2, none⟩) (by show b < _; omega)).trans c2', (hW.cell (p := ⟨w1.heap.size, 2, none⟩) (by simp)).trans o2⟩
            go_wp2_with fail
            clear c0' c1' c2' o0 o1 o2 of2 hown hwz
            refine wp_region_L (fun X => X.cell? ⟨b, off + j * 3 + 2, none⟩ = some (.slice A' n c') ∧ X.cell? ⟨w1.heap.size, 2, none⟩ = some (.slice A2 m c2)) 9 (by kernel_rfl) ?_ (fun hHeld => ?_)
            · first | exact HS2.out | assumption
            refine wpAnyL_take (i := 0) (v := ?_) (some 61) rfl rfl (by kernel_rfl) (by kernel_rfl) (by kernel_rfl) (by kernel_rfl) (fun _ _ _ h => h) (Or.inl ⟨by rfl, ?_⟩) (by assumption) ?_
            rotate_left
            · intro w hSw; (try dsimp only at hSw); go_simp; (try with_reducible rfl)
            try simp only [Act.put, List.setIfInBounds_toArray, List.set_cons_zero, List.set_cons_succ]
            refine wpAnyL_take (i := 1) (v := ?_) (some 62) rfl rfl (by kernel_rfl) (by kernel_rfl) (by kernel_rfl) (by kernel_rfl) (fun _ _ _ h => h) (Or.inl ⟨by rfl, ?_⟩) (by assumption) ?_
            rotate_left
            · intro w hSw; (try dsimp only at hSw); go_simp; (try with_reducible rfl)
            try simp only [Act.put, List.setIfInBounds_toArray, List.set_cons_zero, List.set_cons_succ]
            refine wpAnyL_take (i := 2) (v := ?_) (some 63) rfl rfl (by kernel_rfl) (by kernel_rfl) (by kernel_rfl) (by kernel_rfl) (fun _ _ _ h => h) (Or.inl ⟨by rfl, ?_⟩) (by assumption) ?_
            rotate_left
            · intro w hSw; (try dsimp only at hSw); go_simp; (try with_reducible rfl)
            try simp only [Act.put, List.setIfInBounds_toArray, List.set_cons_zero, List.set_cons_succ]
            refine wpAnyL_take (i := 3) (v := ?_) (some 64) rfl rfl (by kernel_rfl) (by kernel_rfl) (by kernel_rfl) (by kernel_rfl) (fun _ _ _ h => h) (Or.inl ⟨by rfl, ?_⟩) (by assumption) ?_
            rotate_left
            · intro w hSw; (try dsimp only at hSw); go_simp; (try with_reducible rfl)
            try simp only [Act.put, List.setIfInBounds_toArray, List.set_cons_zero, List.set_cons_succ]
            refine wpAnyL_take (i := 4) (v := ?_) (some 65) rfl rfl (by kernel_rfl) (by kernel_rfl) (by kernel_rfl) (by kernel_rfl) (fun _ _ _ h => h) (Or.inl ⟨by rfl, ?_⟩) (by assumption) ?_
            rotate_left
            · intro w hSw; (try dsimp only at hSw); go_simp; (try with_reducible rfl)
            try simp only [Act.put, List.setIfInBounds_toArray, List.set_cons_zero, List.set_cons_succ]
            refine wpAnyL_take (i := 5) (v := ?_) (some 66) rfl rfl (by kernel_rfl) (by kernel_rfl) (by kernel_rfl) (by kernel_rfl) (fun _ _ _ h => h) (Or.inl ⟨by rfl, ?_⟩) (by assumption) ?_
            rotate_left
            · intro w hSw; (try dsimp only at hSw); go_simp; (try with_reducible rfl)
            try simp only [Act.put, List.setIfInBounds_toArray, List.set_cons_zero, List.set_cons_succ]
            refine wpAnyL_take (i := 6) (v := ?_) (some 67) rfl rfl (by kernel_rfl) (by kernel_rfl) (by kernel_rfl) (by kernel_rfl) (fun _ _ _ h => h) (Or.inl ⟨by rfl, ?_⟩) (by assumption) ?_
            rotate_left
            · intro w hSw; (try dsimp only at hSw); go_simp; (try with_reducible rfl)
            try simp only [Act.put, List.setIfInBounds_toArray, List.set_cons_zero, List.set_cons_succ]
            refine wpAnyL_one (i := 7) (by kernel_rfl) rfl (fun K hK => ?_)
            (refine step_append_row _ rfl _ _ 22 rfl (w1.heap.size + 1) 5 i0 (.int .u8 0) 1 1 Try.underlying22 hi hi0 hi1 hi2 rfl (by decide) (.slice A2 m c2) m _ rfl (HOWN.out.kept (Below.refl _ wr).drew) A' n c' (bytesV q.g) rfl (by rw [bytesV_length, Nat.mul_one]; exact HNL.out.1) (HNR.out.kept (Below.refl _ wr).drew) (bytesV_one _) (by unfold maxLen; omega) (by omega) (by show w1.heap.size + 1 ≤ wr.heap.size; omega) ?_; intro v3 w3 hown3 hg3 hat3; have hb3 : Below (w1.heap.size + 1) wr w3 := below_append ((Below.refl _ wr).drew.mono (by show w1.heap.size + 1 ≤ wr.heap.size; omega)) (HOWN.out.kept (Below.refl _ wr).drew) (Nat.le_refl _) (by show w1.heap.size + 1 ≤ wr.heap.size; omega) hg3; obtain ⟨A4, c4, rfl, -, -, -, -, -⟩ := hown3.form; have hS3 := SK.out w3 hb3; have ef := (hb3.frozen (p := ⟨w1.heap.size, 2, none⟩) (by simp)).trans HB3.out.2.2.2)
            refine hK.out _ _ ?_ (fun hHeld => ?_)
            · first | exact HS2.out | assumption
            clear hK K
            try simp only [Act.put, List.setIfInBounds_toArray]
            refine wpAnyL_one (i := 8) (by kernel_rfl) rfl (fun K hK => ?_)
            go_simp
            refine hK.out _ _ ?_ (fun hHeld => ?_)
            · first | exact HS2.out | assumption
            clear hK K
            try simp only [Act.put, List.setIfInBounds_toArray, List.set_cons_zero, List.set_cons_succ]
            refine wpAnyL_end (by kernel_rfl) rfl (fun K hK => ?_)
            go_simp
            refine hK.out _ _ ?_
            clear hK K
            try simp only [Act.put, List.setIfInBounds_toArray, List.set_cons_zero, List.set_cons_succ]
            refine wpAnyL_done (by kernel_rfl) ?_ _
            have HB4 := hide (And.intro hb3 (And.intro hown3 (And.intro ((hb3.cell (p := ⟨w1.heap.size, 0, none⟩) (by simp)).trans HB3.out.1) (And.intro ((hb3.cell (p := ⟨w1.heap.size, 1, none⟩) (by simp)).trans HB3.out.2.1) (And.intro ((hb3.cell (p := ⟨w1.heap.size, 2, none⟩) (by simp)).trans HB3.out.2.2.1) ef)))))
            clear hb3 hown3 hg3 hat3 hS3 ef
            go_wp2
            go_roundg g2
            case measure => omega
            case rel =>
              obtain ⟨hb3, hown3, q0, q1, e2, ef⟩ := HB4.out
              have hw3 : w1.heap.size + 1 ≤ w3.heap.size := by have := hb3.size; omega
              refine ⟨j + 1, m + n, A4, c4, by omega, by go_num, ?_, ?_, ?_, ?_, ?_, by simp [World.setCell]; omega, (hbw.trans (hb3.mono (by omega))).setCell (by simp) _⟩
              · rw [World.cell?_setCell_other _ _ _ _ (by simp)]; exact q0
              · rw [World.cell?_setCell_other _ _ _ _ (by simp)]; exact q1
              · rw [World.cell?_setCell_same _ _ _ e2]
              · rw [World.frozen?_setCell]; exact ef
              · have h9 : Own w3 (w1.heap.size + 1) 1 (.slice A4 (m + n) c4) (m + n) (bytesV (allG (qs.take (j + 1)))) := by
                  rw [HNL.out.2, bytesV_append]
                  exact hown3
                exact h9.far (fun k hk => by have := (h9.lt k hk).1; simp; omega) _
    | succ gh =>
      have hlt : (k : Int) < L := by omega
      obtain ⟨q, hqk⟩ : ∃ q, qs[k]? = some q := ⟨_, List.getElem?_eq_getElem (by have := HL.out; omega)⟩
      obtain ⟨b', off', A', n, c', hA', hb', c0', c1', c2', hpa⟩ := (HP.out.kept hkw).at_ hqk
      injection hA' with hA'
      injection hA' with hA1 hA2
      subst hA1
      subst hA2
      have hsum := (sums_le HE.out k (by have := HL.out; omega)).1
      have hbq := mayB_bounds (may_of_allE HE.out hqk)
      obtain ⟨s1, s2⟩ := hsum
      obtain ⟨y1, y2, y3, y4, -, -, -⟩ := hbq
      have HQK := hide hqk
      have hnx := hide (sumD_next hqk)
      generalize sumD (qs.take k) = S at *
      clear hqk hpa
      have HOO := hide (And.intro o0 (And.intro o1 (And.intro o2 (And.intro of1 of2))))
      have hbk : b < w1.heap.size := by omega
      by_cases hqa : q.a = p.a
      · have hq1 : (q.a != p.a) = false := by simp [hqa]
        have HQA := hide hqa
        clear hqa
        go_upto_region 8 with fail
        go_cut [32] (fun v wx => v = .bool false ∧ Kept wr wx)
        case first =>
          go_quiet (fail)
          go_wp2_with fail
          go_meet
          exact ⟨rfl, drewN_below (Below.refl _ _) _⟩
        case rest =>
        obtain ⟨rfl, hkc⟩ := hcut
        rename World => wx
        have HKC := hide hkc
        have d1 := (hkc.cells b (off + k * 3 + 1) (lt_of_cell c1')).trans c1'
        have d2 := (hkc.cells w1.heap.size 1 (lt_of_cell o1)).trans o1
        have df := (hkc.thaw w1.heap.size 1 (lt_of_cell o1)).trans of1
        have k1 : IntKind.i64.wrap (S + q.d) = S + q.d := IntWalk.i64_in _ (by omega)
        have HS2 := hide (And.intro d1 d2)
        clear hkc c0' c1' c2' o0 o1 o2 of1 of2 r0 r1 r2 f0 f1 f2 hrl hkw
        go_wp2_with fail
        refine wp_region_L (fun X => X.cell? ⟨b, off + k * 3 + 1, none⟩ = some (.int .i64 q.d) ∧ X.cell? ⟨w1.heap.size, 1, none⟩ = some (.int .i64 S)) 9 (by kernel_rfl) ?_ (fun hHeld => ?_)
        · first | exact HS2.out | assumption
        refine wpAnyL_take (i := 0) (v := ?_) (some 34) rfl rfl (by kernel_rfl) (by kernel_rfl) (by kernel_rfl) (by kernel_rfl) (fun _ _ _ h => h) (Or.inl ⟨by rfl, ?_⟩) (by assumption) ?_
        rotate_left
        · intro w hSw; (try dsimp only at hSw); go_simp; (try with_reducible rfl)
        try simp only [Act.put, List.setIfInBounds_toArray, List.set_cons_zero, List.set_cons_succ]
        refine wpAnyL_take (i := 1) (v := ?_) (some 35) rfl rfl (by kernel_rfl) (by kernel_rfl) (by kernel_rfl) (by kernel_rfl) (fun _ _ _ h => h) (Or.inl ⟨by rfl, ?_⟩) (by assumption) ?_
        rotate_left
        · intro w hSw; (try dsimp only at hSw); go_simp; (try with_reducible rfl)
        try simp only [Act.put, List.setIfInBounds_toArray, List.set_cons_zero, List.set_cons_succ]
        refine wpAnyL_take (i := 2) (v := ?_) (some 36) rfl rfl (by kernel_rfl) (by kernel_rfl) (by kernel_rfl) (by kernel_rfl) (fun _ _ _ h => h) (Or.inl ⟨by rfl, ?_⟩) (by assumption) ?_
        rotate_left
        · intro w hSw; (try dsimp only at hSw); go_simp; (try with_reducible rfl)
        try simp only [Act.put, List.setIfInBounds_toArray, List.set_cons_zero, List.set_cons_succ]
        refine wpAnyL_take (i := 3) (v := ?_) (some 37) rfl rfl (by kernel_rfl) (by kernel_rfl) (by kernel_rfl) (by kernel_rfl) (fun _ _ _ h => h) (Or.inl ⟨by rfl, ?_⟩) (by assumption) ?_
        rotate_left
        · intro w hSw; (try dsimp only at hSw); go_simp; (try with_reducible rfl)
        try simp only [Act.put, List.setIfInBounds_toArray, List.set_cons_zero, List.set_cons_succ]
        refine wpAnyL_take (i := 4) (v := ?_) (some 38) rfl rfl (by kernel_rfl) (by kernel_rfl) (by kernel_rfl) (by kernel_rfl) (fun _ _ _ h => h) (Or.inl ⟨by rfl, ?_⟩) (by assumption) ?_
        rotate_left
        · intro w hSw; (try dsimp only at hSw); go_simp; (try with_reducible rfl)
        try simp only [Act.put, List.setIfInBounds_toArray, List.set_cons_zero, List.set_cons_succ]
        refine wpAnyL_take (i := 5) (v := ?_) (some 39) rfl rfl (by kernel_rfl) (by kernel_rfl) (by kernel_rfl) (by kernel_rfl) (fun _ _ _ h => h) (Or.inl ⟨by rfl, ?_⟩) (by assumption) ?_
        rotate_left
        · intro w hSw; (try dsimp only at hSw); go_simp; (try with_reducible rfl)
        try simp only [Act.put, List.setIfInBounds_toArray, List.set_cons_zero, List.set_cons_succ]
        refine wpAnyL_take (i := 6) (v := ?_) (some 40) rfl rfl (by kernel_rfl) (by kernel_rfl) (by kernel_rfl) (by kernel_rfl) (fun _ _ _ h => h) (Or.inl ⟨by rfl, ?_⟩) (by assumption) ?_
        rotate_left
        · intro w hSw; (try dsimp only at hSw); go_simp; (try with_reducible rfl)
        try simp only [Act.put, List.setIfInBounds_toArray, List.set_cons_zero, List.set_cons_succ]
        refine wpAnyL_take (i := 7) (v := ?_) (some 41) rfl rfl (by kernel_rfl) (by kernel_rfl) (by kernel_rfl) (by kernel_rfl) (fun _ _ _ h => h) (Or.inl ⟨by rfl, ?_⟩) (by assumption) ?_
        rotate_left
        · intro w hSw; (try dsimp only at hSw); go_simp; (try with_reducible rfl)
        try simp only [Act.put, List.setIfInBounds_toArray, List.set_cons_zero, List.set_cons_succ]
        refine wpAnyL_take (i := 8) (v := ?_) (some 42) rfl rfl (by kernel_rfl) (by kernel_rfl) (by kernel_rfl) (by kernel_rfl) (fun _ _ _ h => h) (Or.inl ⟨by rfl, ?_⟩) (by assumption) ?_
        rotate_left
        · intro w hSw; (try dsimp only at hSw); go_simp; (try with_reducible rfl)
        try simp only [Act.put, List.setIfInBounds_toArray, List.set_cons_zero, List.set_cons_succ]
        refine wpAnyL_end (by kernel_rfl) rfl (fun K hK => ?_)
        go_simp
        refine hK.out _ _ ?_
        clear hK K
        try simp only [Act.put, List.setIfInBounds_toArray, List.set_cons_zero, List.set_cons_succ]
        refine wpAnyL_done (by kernel_rfl) ?_ _
        go_wp2
        go_roundg gh
        case measure => omega
        case rel =>
          obtain ⟨o0, o1, o2, of1, of2⟩ := HOO.out
          have hkc := HKC.out
          have hsz : w1.heap.size < (wx.setCell ⟨w1.heap.size, 1, none⟩ (.int .i64 (S + q.d))).heap.size := by have := hkc.size; simp [World.setCell]; omega
          have hK1 := hkc
          have x0 := (hkc.cells w1.heap.size 0 hwz).trans o0
          have x1 := (hkc.cells w1.heap.size 1 hwz).trans o1
          have x2 := (hkc.cells w1.heap.size 2 hwz).trans o2
          have xf1 := (hkc.thaw w1.heap.size 1 hwz).trans of1
          have xf2 := (hkc.thaw w1.heap.size 2 hwz).trans of2
          refine ⟨k + 1, by omega, by go_num, ?_, ?_, ?_, ?_, ?_, fun i q' hi hq' => ?_, hsz, ((hbw.trans (hkc.mono (by omega))).setCell (by simp) _).drew⟩
          · show (World.setCell wx _ _).cell? _ = _; rw [World.cell?_setCell_other _ _ _ _ (by simp)]; exact x0
          · show (World.setCell wx _ _).cell? _ = _; rw [World.cell?_setCell_same _ _ _ x1, hnx.out]
          · show (World.setCell wx _ _).cell? _ = _; rw [World.cell?_setCell_other _ _ _ _ (by simp)]; exact x2
          · show (World.setCell wx _ _).frozen? _ = _; rw [World.frozen?_setCell]; exact xf1
          · show (World.setCell wx _ _).frozen? _ = _; rw [World.frozen?_setCell]; exact xf2
          · by_cases hik : i = k
            · subst hik
              rw [HQK.out] at hq'
              injection hq' with hq'
              subst hq'
              exact HQA.out
            · exact HI.out i q' (by omega) hq'
      · have hq1 : (q.a != p.a) = true := by simp [hqa]
        have HQA := hide hqa
        clear hqa
        go_upto_region 8 with fail
        go_cut [32] (fun v wx => v = .bool true ∧ Kept wr wx)
        case first =>
          go_quiet (fail)
          go_wp2_with fail
          go_meet
          exact ⟨rfl, drewN_below (Below.refl _ _) _⟩
        case rest =>
        obtain ⟨rfl, hkc⟩ := hcut
        rename World => wx
        have RX := RES.out.below (hkc.mono (by omega)) hlt0
        have u0 := RX.r0
        have u1 := RX.r1
        have u2 := RX.r2
        have v0 := RX.f0
        have v5 := RX.f1
        have v6 := RX.f2
        have vl := RX.lt
        have RS := hide RX
        clear RX hkc r0 r1 r2 f0 f1 f2 hrl
        go_wp2_with fail
        exact bodyPost_ret (v := .tuple #[.agg #[.int .i64 0, .int .i64 0, .slice none 0 0], .int .i64 291]) (by simp [results, Try.results32, go_sem, u0, u1, u2, vl]) rfl (by
          have hE1 : belowE qs = 291 := by
            rw [HB.out, if_neg]
            intro h
            have := List.all_eq_true.1 h q (List.mem_of_getElem? HQK.out)
            exact HQA.out (by simpa using this)
          rw [hE1]
          exact PutPost.err (by omega) (RS.out.stored _ _ _))
theorem rbelow_any (A : Option Addr) (c : Nat) (ps : List PicD) (w : World) (hp : Pics w A ps) (hl : ps.length ≤ 1000000) :
    Calls Try.prog 32 #[.slice A ps.length c] w (PutPost w (belowE ps) (belowP ps)) := by
  cases ps with
  | nil => exact rbelow_bad A c [] _ 2 w hp (by omega) rfl (by omega) (by omega)
  | cons p ps =>
    rcases allE_two (p :: ps) with h | h
    · exact rbelow_right A c p ps w hp hl h
    · have := rbelow_bad A c (p :: ps) (belowP (p :: ps)) 290 w hp (by omega) (by simp [wrongE, h]) (by omega) (by omega)
      rwa [show belowE (p :: ps) = 290 by simp [belowE, h]]
end Go.Proofs.Ytbhgcbgaadnfpaa
