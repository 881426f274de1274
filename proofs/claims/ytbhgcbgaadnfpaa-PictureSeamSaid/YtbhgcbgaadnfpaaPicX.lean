/- picture.all and picture.Below, walked. -/
import Derived.Test.YtbhgcbgaadnfpaaPicB
import Derived.Test.YtbhgcbgaadnfpaaPicU
import Derived.Test.YtbhgcbgaadnfpaaHeld
import Derived.Deep.LoopGhost
import Derived.Deep.DeepCutAuto
namespace Go.Proofs.Ytbhgcbgaadnfpaa
open Go.RowKit

set_option maxRecDepth 100000 in
set_option maxHeartbeats 400000 in
theorem all_any (A : Option Addr) (c : Nat) (ps : List PicD) (w : World) (hp : Pics w A ps) (hl : ps.length ≤ 1000000000) :
    Calls Try.prog 54 #[.slice A ps.length c] w fun e w' => e = .returned (.int .i64 (allE ps)) ∧ Kept w w' := by
  obtain ⟨L, hL⟩ : ∃ L, L = ps.length := ⟨_, rfl⟩
  rw [← hL] at hl ⊢
  have HL := hide hL
  clear hL
  go_enter Try.func54, Try.ntmps54
  go_wp2
  go_loopg [8] L (fun gh ix wr => ∃ k : Nat, k + gh = L ∧ ix = .int .i64 k ∧ Hid (∀ (i : Nat) (p : PicD), i < k → ps[i]? = some p → mayB p.a p.d p.g.length = true) ∧ Kept w wr)
  case atStart => exact ⟨0, by omega, rfl, fun i p hi => by omega, Below.refl _ _⟩
  case round =>
    obtain ⟨k, hkg, rfl, HI, hk⟩ := hrel
    cases gk with
    | zero =>
      have hge : ¬ (k : Int) < L := by omega
      go_wp2
      go_ret
      exact ⟨int_ret (allE_all (fun i p hi => HI.out i p (by have := (List.getElem?_eq_some_iff.1 hi).1; have := HL.out; omega) hi)).symm, hk⟩
    | succ gh =>
      have hlt : (k : Int) < L := by omega
      obtain ⟨p, hpk⟩ : ∃ p, ps[k]? = some p := ⟨_, List.getElem?_eq_getElem (by have := HL.out; omega)⟩
      obtain ⟨b, off, A', n, c', rfl, hb, c0, c1, c2, hpa⟩ := (hp.kept hk).at_ hpk
      have HPK := hide hpk
      clear hpk
      have n1 := hpa.a0
      have n2 := hpa.a1
      have n3 := hpa.d0
      have n4 := hpa.d1
      have n5 := hpa.max
      have HPA := hide hpa.len
      cases hm : mayB p.a p.d n with
      | false =>
        have hck : checkI p.a p.d n = 290 := by simp [checkI, hm]
        clear hpa
        go_wp2_with (go_at_call 20; refine (check_any _ _ _ _ _ _ n1 n2 n3 n4 n5).mono ?_; rintro e w1 ⟨rfl, hk1⟩; rw [hck])
        go_ret
        exact ⟨int_ret (allE_at HPK.out (by rw [HPA.out]; exact hm)).symm, (hk.alloc hk.size _).trans (hk1.mono (by have := hk.size; simp; omega))⟩
      | true =>
        have hck : checkI p.a p.d n = 0 := by simp [checkI, hm]
        have HM := hide hm
        clear hm hpa
        go_wp2_with (go_at_call 20; refine (check_any _ _ _ _ _ _ n1 n2 n3 n4 n5).mono ?_; rintro e w1 ⟨rfl, hk1⟩; rw [hck])
        go_roundg gh
        case measure => omega
        case rel =>
          refine ⟨k + 1, by omega, by go_num, fun i q hi hq => ?_, (hk.alloc hk.size _).trans (hk1.mono (by have := hk.size; simp; omega))⟩
          by_cases hik : i = k
          · subst hik
            rw [HPK.out] at hq
            injection hq with hq
            subst hq
            rw [HPA.out]; exact HM.out
          · exact HI.out i q (by omega) hq

set_option maxRecDepth 100000 in
set_option maxHeartbeats 400000 in
theorem below_none (A : Option Addr) (c : Nat) (w : World) :
    Calls Try.prog 31 #[.slice A 0 c] w (PutPost w (belowE []) (belowP [])) := by
  go_enter Try.func31, Try.ntmps31
  go_wp2
  exact bodyPost_ret (v := .tuple #[.agg #[.int .i64 0, .int .i64 0, .slice none 0 0], .int .i64 2]) (by simp [results, Try.results31, go_sem]) rfl (by
    exact PutPost.err (E := 2) (by omega) ((Below.refl _ _).alloc (Nat.le_refl _) _))

set_option maxRecDepth 100000 in
set_option maxHeartbeats 400000 in
theorem below_wrong (A : Option Addr) (c : Nat) (p : PicD) (ps : List PicD) (w : World) (hp : Pics w A (p :: ps)) (hl : (p :: ps).length ≤ 1000000000) (hE : allE (p :: ps) = 290) :
    Calls Try.prog 31 #[.slice A (p :: ps).length c] w (PutPost w (belowE (p :: ps)) (belowP (p :: ps))) := by
  have call : ∀ W, Kept w W → Calls Try.prog 54 #[.slice A (p :: ps).length c] W fun e w' => e = .returned (.int .i64 290) ∧ Kept W w' := fun W hW => by
    have := all_any A c (p :: ps) W (hp.kept hW) hl
    rwa [hE] at this
  have hB : belowE (p :: ps) = 290 := by simp [belowE, hE]
  rw [hB]
  obtain ⟨L, hL⟩ : ∃ L, L = (p :: ps).length := ⟨_, rfl⟩
  have hL0 : ((L : Int) == 0) = false := by rw [hL]; simp; omega
  rw [← hL] at call hl ⊢
  have CALL := hide call
  have R0 := hide (Res0.new w w 24 (Below.refl _ _))
  clear hL hE hp call hB
  go_enter Try.func31, Try.ntmps31
  go_wp2_with (go_at_call 54; refine (CALL.out _ ((Below.refl _ _).alloc (Nat.le_refl _) _)).mono ?_; rintro e w1 ⟨rfl, hk1⟩; have R1 := R0.out.below hk1 (by simp); have t0 := R1.r0; have t1 := R1.r1; have t2 := R1.r2; have g0 := R1.f0; have g1 := R1.f1; have g2 := R1.f2; have R2 := hide R1; clear R1)
  exact bodyPost_ret (v := .tuple #[.agg #[.int .i64 0, .int .i64 0, .slice none 0 0], .int .i64 290]) (by simp [results, Try.results31, go_sem, t0, t1, t2]) rfl (by
    exact PutPost.err (by omega) (R2.out.stored _ _ _))

set_option maxRecDepth 100000 in
set_option maxHeartbeats 800000 in
theorem below_right (A : Option Addr) (c : Nat) (p : PicD) (ps : List PicD) (w : World) (hp : Pics w A (p :: ps)) (hl : (p :: ps).length ≤ 1000000) (hE : allE (p :: ps) = 0) :
    Calls Try.prog 31 #[.slice A (p :: ps).length c] w (PutPost w (belowE (p :: ps)) (belowP (p :: ps))) := by
  have call : ∀ W, Kept w W → Calls Try.prog 54 #[.slice A (p :: ps).length c] W fun e w' => e = .returned (.int .i64 0) ∧ Kept W w' := fun W hW => by
    have := all_any A c (p :: ps) W (hp.kept hW) (by omega)
    rwa [hE] at this
  obtain ⟨i0, hi, hi0, hi1, hi2⟩ := info_parts info_u8
  obtain ⟨qs, hqs⟩ : ∃ qs, qs = p :: ps := ⟨_, rfl⟩
  have hq0 : qs[0]? = some p := by rw [hqs]; rfl
  have HB : Hid (belowE qs = if qs.all (fun q => q.a == p.a) then (if sizeB p.a (sumD qs) then 0 else 4) else 291) := by show _ = _; rw [hqs]; simp [belowE, hE]
  have HBP : Hid (belowP qs = ⟨p.a, sumD qs, allG qs⟩) := by show _ = _; rw [hqs]; rfl
  rw [← hqs] at call hl hp hE ⊢
  clear hqs
  obtain ⟨L, hL⟩ : ∃ L, L = qs.length := ⟨_, rfl⟩
  have hLp : 0 < L := by rw [hL]; have := (List.getElem?_eq_some_iff.1 hq0).1; omega
  have hL0 : ((L : Int) == 0) = false := by simp; omega
  have hL1 : (0 : Int) < (L : Int) := by omega
  rw [← hL] at call hl ⊢
  have CALL := hide call
  have HL := hide hL
  have HE := hide hE
  have R0 := hide (Res0.new w w 24 (Below.refl _ _))
  obtain ⟨b, off, A0, n0, d0, rfl, hb, c0, c1, c2, hpa⟩ := hp.at_ hq0
  have HP := hide hp
  simp only [Nat.zero_mul, Nat.add_zero] at c0
  have hbnd := mayB_bounds (may_of_allE hE hq0)
  obtain ⟨v1, v2, v3, v4, -, -, -⟩ := hbnd
  clear hL hE hp call hpa c1 c2
  have HQ0 := hide hq0
  clear hq0
  go_enter Try.func31, Try.ntmps31
  go_upto_region 7 with (go_at_call 54; refine (CALL.out _ ((Below.refl _ _).alloc (Nat.le_refl _) _)).mono ?_; rintro e w1 ⟨rfl, hk1⟩; have k0 := (hk1.cells b off (by simp; omega)).trans ((World.cell?_alloc_lt w _ ⟨b, off, none⟩ hb).trans c0); have R1 := hide (R0.out.below hk1 (by simp)); have hz1 := hk1.size; simp at hz1)
  have BOX : ∀ W, Below w1.heap.size w1 W → Res0 w W w.heap.size ∧ Kept w W := fun W hW => by
    have h1 := R1.out.below hW R1.out.lt
    exact ⟨h1, h1.kept⟩
  have HBOX := hide BOX
  have hlt0 : w.heap.size < w1.heap.size := R1.out.lt
  clear BOX hk1 R0 R1 k0
  go_wp2
  go_loopg [27] L (fun gh ix wr => ∃ k : Nat, k + gh = L ∧ ix = .int .i64 k ∧ wr.cell? ⟨w1.heap.size, 0, none⟩ = some (.int .i64 p.a) ∧ wr.cell? ⟨w1.heap.size, 1, none⟩ = some (.int .i64 (sumD (qs.take k))) ∧ wr.cell? ⟨w1.heap.size, 2, none⟩ = some (.slice none 0 0) ∧
    wr.frozen? ⟨w1.heap.size, 1, none⟩ = false ∧ wr.frozen? ⟨w1.heap.size, 2, none⟩ = false ∧ Hid (∀ (i : Nat) (q : PicD), i < k → qs[i]? = some q → q.a = p.a) ∧ w1.heap.size < wr.heap.size ∧ Below w1.heap.size w1 wr)
  case atStart =>
    have hh : (w1.alloc (.cells #[.int .i64 p.a, .int .i64 0, .slice none 0 0] 24)).heap[w1.heap.size]? = some (.cells #[.int .i64 p.a, .int .i64 0, .slice none 0 0] 24) := by
      show (w1.heap.push _)[w1.heap.size]? = _
      simp
    refine ⟨0, by omega, rfl, by simp, by simp [sumD, sumI], by simp, ?_, ?_, fun i q hi => by omega, by simp, (Below.refl _ _).alloc (Nat.le_refl _) _⟩ <;> (simp only [World.frozen?, hh]; rfl)
  case round =>
    obtain ⟨k, hkg, rfl, o0, o1, o2, of1, of2, HI, hwz, hbw⟩ := hrel
    obtain ⟨⟨r0, r1, r2, f0, f1, f2, hrl, -, -⟩, hkw⟩ := HBOX.out wr hbw
    have RES := hide (HBOX.out wr hbw).1
    cases gk with
    | zero =>
      have hge : ¬ (k : Int) < L := by omega
      have hkL : k = L := by omega
      have hsame : qs.all (fun q => q.a == p.a) = true := by
        rw [List.all_eq_true]
        intro q hq
        obtain ⟨i, hi⟩ := List.getElem?_of_mem hq
        have := HI.out i q (by have := (List.getElem?_eq_some_iff.1 hi).1; have := HL.out; omega) hi
        simp [this]
      have htk : qs.take k = qs := List.take_of_length_le (by have := HL.out; omega)
      rw [htk] at o1
      have hsum := (sums_le HE.out L (by have := HL.out; omega)).1
      rw [← hkL, htk] at hsum
      obtain ⟨s1, s2⟩ := hsum
      have HB2 : Hid (belowE qs = if sizeB p.a (sumD qs) then 0 else 4) := by show _ = _; rw [HB.out, if_pos hsame]
      have hgl : ∀ q ∈ qs, (q.g.length : Int) = p.a * q.d := fun q hq => by
        obtain ⟨i, hi⟩ := List.getElem?_of_mem hq
        have h1 := HI.out i q (by have := (List.getElem?_eq_some_iff.1 hi).1; have := HL.out; omega) hi
        have h2 := (mayB_bounds (may_of_allE HE.out hi)).2.2.2.2.1
        rw [h2, h1]
      have HGL := hide hgl
      clear hgl hsame htk hkL
      obtain ⟨S, hS⟩ : ∃ S, S = sumD qs := ⟨_, rfl⟩
      rw [← hS] at o1 s1 s2
      have HS := hide hS
      clear hS
      cases hz : sizeB p.a S with
      | false =>
        go_wp2_with (go_at_call 49; refine (size_any _ _ _ (by omega) (by omega) (by omega) (by omega)).mono ?_; rintro e w' ⟨rfl, rfl⟩)
        exact bodyPost_ret (v := .tuple #[.agg #[.int .i64 0, .int .i64 0, .slice none 0 0], .int .i64 4]) (by simp [results, Try.results31, go_sem, r0, r1, r2]) rfl (by
          rw [HB2.out, ← HS.out, hz]
          exact PutPost.err (E := 4) (by omega) (RES.out.stored _ _ _))
      | true =>
        have hE0 : belowE qs = 0 := by rw [HB2.out, ← HS.out, hz]; rfl
        obtain ⟨z1, z2, z3, z4, z5, z6⟩ := sizeB_bounds hz
        have HE0 := hide hE0
        clear hE0
        go_wp2_with (go_at_call 49; refine (size_any _ _ _ (by omega) (by omega) (by omega) (by omega)).mono ?_; rintro e w' ⟨rfl, rfl⟩)
        clear r0 r1 r2 f0 f1 f2 hrl RES hkw
        go_loopg [53] L (fun gh ix wy => ∃ (j m : Nat) (A2 : Option Addr) (c2 : Nat), j + gh = L ∧ ix = .int .i64 j ∧ wy.cell? ⟨w1.heap.size, 0, none⟩ = some (.int .i64 p.a) ∧ wy.cell? ⟨w1.heap.size, 1, none⟩ = some (.int .i64 S) ∧ wy.cell? ⟨w1.heap.size, 2, none⟩ = some (.slice A2 m c2) ∧
          wy.frozen? ⟨w1.heap.size, 2, none⟩ = false ∧ Own wy (w1.heap.size + 1) 1 (.slice A2 m c2) m (bytesV (allG (qs.take j))) ∧ w1.heap.size < wy.heap.size ∧ Below w1.heap.size w1 wy)
        case atStart => exact ⟨0, 0, none, 0, by omega, rfl, o0, o1, o2, of2, by simpa [allG, bytesV] using Own.nil _ _ _, hwz, hbw⟩
        case round =>
          clear o0 o1 o2 of1 of2 hwz hbw
          obtain ⟨j, m, A2, c2, hjg, rfl, o0, o1, o2, of2, hown, hwz, hbw⟩ := hrel
          obtain ⟨⟨r0, r1, r2, f0, f1, f2, hrl, -, -⟩, hkw⟩ := HBOX.out wr hbw
          have RES := hide (HBOX.out wr hbw).1
          cases gk with
          | zero =>
            have hge : ¬ (j : Int) < L := by omega
            have htk : qs.take j = qs := List.take_of_length_le (by have := HL.out; omega)
            rw [htk] at hown
            have HO := hide hown
            clear hown htk
            go_wp2
            exact bodyPost_ret (v := .tuple #[.agg #[.int .i64 p.a, .int .i64 S, .slice A2 m c2], .int .i64 0]) (by simp [results, Try.results31, go_sem, r0, r1, r2]) rfl (by
              have hm : m = (allG qs).length := by have := HO.out.1; rw [bytesV_length] at this; omega
              have hP := PutPost.ok (p := belowP qs) (v := .slice A2 m c2) (w := w) (w' := (((wr.setCell ⟨w.heap.size, 0, none⟩ (.int .i64 p.a)).setCell ⟨w.heap.size, 1, none⟩ (.int .i64 S)).setCell ⟨w.heap.size, 2, none⟩ (.slice A2 m c2))) (by
                rw [HBP.out]
                show Own _ _ 1 _ (allG qs).length _
                rw [← hm]
                have hne : ∀ k, (Value.slice A2 m c2).ownBlock = some k → k ≠ w.heap.size := fun k hk => by have := (HO.out.lt k hk).1; omega
                exact (((HO.out.less (base' := w.heap.size) (by omega)).far (p := ⟨w.heap.size, 0, none⟩) hne _).far (p := ⟨w.heap.size, 1, none⟩) hne _).far (p := ⟨w.heap.size, 2, none⟩) hne _) (RES.out.stored _ _ _)
              rw [HE0.out]
              rw [HBP.out, ← HS.out] at hP ⊢
              exact hP)
          | succ g2 =>
            have hlt : (j : Int) < L := by omega
            obtain ⟨q, hqk⟩ : ∃ q, qs[j]? = some q := ⟨_, List.getElem?_eq_getElem (by have := HL.out; omega)⟩
            obtain ⟨b', off', A', n, c', hA', hb', c0', c1', c2', hpa⟩ := (HP.out.kept hkw).at_ hqk
            injection hA' with hA'
            injection hA' with hA1 hA2
            subst hA1
            subst hA2
            have hnl := hpa.len
            have hnr := hpa.row
            have hnx := allG_next hqk
            have hmb : m + n ≤ 4194304 := by
              have h1 := allG_take_le (a0 := p.a) (by omega) HGL.out (by rw [← HS.out]; exact z6) (j + 1)
              rw [hnx, List.length_append] at h1
              have h2 := hown.1
              rw [bytesV_length] at h2
              omega
            have HNL := hide (And.intro hnl hnx)
            clear hnl hnx hqk hpa
            go_wp2_with (at_builtin; refine wpList_append_row _ rfl _ _ 22 rfl (w1.heap.size + 1) 5 i0 (.int .u8 0) 1 1 Try.underlying22 hi hi0 hi1 hi2 rfl (by decide) _ m _ rfl (hown.alloc _) A' n c' (bytesV q.g) rfl ?_ (hnr.alloc _) (bytesV_one _) ?_ ?_ ?_ ?_)
            · first | exact HNL.out.1 | (rw [bytesV_length]; exact HNL.out.1) | (rw [bytesV_length, Nat.mul_one]; exact HNL.out.1)
            · unfold maxLen; omega
            · omega
            · omega
            · intro v3 w3 hown3 hg3 hat3
              have hb3 : Below (w1.heap.size + 1) wr w3 := below_append ((Below.refl _ wr).alloc (by omega) _) (hown.alloc _) (Nat.le_refl _) (by simp; omega) hg3
              have e2 := (hb3.cell (p := ⟨w1.heap.size, 2, none⟩) (by simp)).trans o2
              have ef := (hb3.frozen (p := ⟨w1.heap.size, 2, none⟩) (by simp)).trans of2
              have q0 := (hb3.cell (p := ⟨w1.heap.size, 0, none⟩) (by simp)).trans o0
              have q1 := (hb3.cell (p := ⟨w1.heap.size, 1, none⟩) (by simp)).trans o1
              obtain ⟨A4, c4, rfl, -, -, -, -, -⟩ := hown3.form
              have HB3 := hide (And.intro hb3 (And.intro hown3 (And.intro q0 (And.intro q1 (And.intro e2 ef)))))
              clear hb3 hown3 q0 q1 hg3 hat3 hown hnr o0 o1 o2 of2
              go_wp2
              go_roundg g2
              case measure => omega
              case rel =>
                obtain ⟨hb3, hown3, q0, q1, e2, ef⟩ := HB3.out
                have hw3 : w1.heap.size + 1 ≤ w3.heap.size := by have := hb3.size; omega
                refine ⟨j + 1, m + n, A4, c4, by omega, by go_num, ?_, ?_, ?_, ?_, ?_, by simp [World.setCell]; omega, (hbw.trans (hb3.mono (by omega))).setCell (by simp) _⟩
                · rw [World.cell?_setCell_other _ _ _ _ (by simp)]; exact q0
                · rw [World.cell?_setCell_other _ _ _ _ (by simp)]; exact q1
                · rw [World.cell?_setCell_same _ _ _ e2]
                · rw [World.frozen?_setCell]; exact ef
                · have h9 : Own w3 (w1.heap.size + 1) 1 (.slice A4 (m + n) c4) (m + n) (bytesV (allG (qs.take (j + 1)))) := by
                    rw [HNL.out.2, bytesV_append]
                    exact hown3
                  exact h9.far (fun k hk => by have := (h9.lt k hk).1; simp; omega) _
    | succ gh =>
      have hlt : (k : Int) < L := by omega
      obtain ⟨q, hqk⟩ : ∃ q, qs[k]? = some q := ⟨_, List.getElem?_eq_getElem (by have := HL.out; omega)⟩
      obtain ⟨b', off', A', n, c', hA', hb', c0', c1', c2', hpa⟩ := (HP.out.kept hkw).at_ hqk
      injection hA' with hA'
      injection hA' with hA1 hA2
      subst hA1
      subst hA2
      have hsum := (sums_le HE.out k (by have := HL.out; omega)).1
      have hbq := mayB_bounds (may_of_allE HE.out hqk)
      obtain ⟨s1, s2⟩ := hsum
      obtain ⟨y1, y2, y3, y4, -, -, -⟩ := hbq
      have HQK := hide hqk
      have hnx := hide (sumD_next hqk)
      generalize sumD (qs.take k) = S at *
      clear hqk hpa
      by_cases hqa : q.a = p.a
      · have hq1 : (q.a != p.a) = false := by simp [hqa]
        have HQA := hide hqa
        clear hqa
        go_wp2
        go_roundg gh
        case measure => omega
        case rel =>
          have hwz' : w1.heap.size < (wr.setCell ⟨w1.heap.size, 1, none⟩ (.int .i64 (S + q.d))).heap.size := by simpa [World.setCell] using hwz
          refine ⟨k + 1, by omega, by go_num, ?_, ?_, ?_, ?_, ?_, fun i q' hi hq' => ?_, ?_, ?_⟩
          · rw [World.cell?_alloc_lt _ _ ⟨w1.heap.size, 0, none⟩ hwz', World.cell?_setCell_other _ _ _ _ (by simp)]; exact o0
          · rw [World.cell?_alloc_lt _ _ ⟨w1.heap.size, 1, none⟩ hwz', World.cell?_setCell_same _ _ _ o1, hnx.out]
          · rw [World.cell?_alloc_lt _ _ ⟨w1.heap.size, 2, none⟩ hwz', World.cell?_setCell_other _ _ _ _ (by simp)]; exact o2
          · rw [((Below.refl _ _).alloc (Nat.le_refl _) _).frozen (p := ⟨w1.heap.size, 1, none⟩) hwz', World.frozen?_setCell]; exact of1
          · rw [((Below.refl _ _).alloc (Nat.le_refl _) _).frozen (p := ⟨w1.heap.size, 2, none⟩) hwz', World.frozen?_setCell]; exact of2
          · by_cases hik : i = k
            · subst hik
              rw [HQK.out] at hq'
              injection hq' with hq'
              subst hq'
              exact HQA.out
            · exact HI.out i q' (by omega) hq'
          · simp [World.setCell]; omega
          · exact (hbw.setCell (by simp) _).alloc (by simp [World.setCell]; omega) _
      · have hq1 : (q.a != p.a) = true := by simp [hqa]
        have HQA := hide hqa
        clear hqa
        go_wp2
        exact bodyPost_ret (v := .tuple #[.agg #[.int .i64 0, .int .i64 0, .slice none 0 0], .int .i64 291]) (by simp [results, Try.results31, go_sem, r0, r1, r2, hrl]) rfl (by
          have hE1 : belowE qs = 291 := by
            rw [HB.out, if_neg]
            intro h
            have := List.all_eq_true.1 h q (List.mem_of_getElem? HQK.out)
            exact HQA.out (by simpa using this)
          rw [hE1]
          exact PutPost.err (by omega) (RES.out.stored2 _ _ _ _))

theorem allE_two (ps : List PicD) : allE ps = 0 ∨ allE ps = 290 := by unfold allE; split <;> simp
theorem below_any (A : Option Addr) (c : Nat) (ps : List PicD) (w : World) (hp : Pics w A ps) (hl : ps.length ≤ 1000000) :
    Calls Try.prog 31 #[.slice A ps.length c] w (PutPost w (belowE ps) (belowP ps)) := by
  cases ps with
  | nil => exact below_none A c w
  | cons p ps =>
    rcases allE_two (p :: ps) with h | h
    · exact below_right A c p ps w hp hl h
    · exact below_wrong A c p ps w hp (by omega) h
end Go.Proofs.Ytbhgcbgaadnfpaa
