/- picture.Beside, walked. -/
import Derived.Test.YtbhgcbgaadnfpaaCropW
namespace Go.Proofs.Ytbhgcbgaadnfpaa
open Go.RowKit

set_option maxRecDepth 100000 in
set_option maxHeartbeats 400000 in
theorem beside_none (A : Option Addr) (c : Nat) (w : World) :
    Calls Try.prog 29 #[.slice A 0 c] w (PutPost w (besideE []) (besideP [])) := by
  go_enter Try.func29, Try.ntmps29
  go_wp2
  exact bodyPost_ret (v := .tuple #[.agg #[.int .i64 0, .int .i64 0, .slice none 0 0], .int .i64 2]) (by simp [results, Try.results29, go_sem]) rfl (by
    exact PutPost.err (E := 2) (by omega) ((Below.refl _ _).alloc (Nat.le_refl _) _))

set_option maxRecDepth 100000 in
set_option maxHeartbeats 400000 in
theorem beside_wrong (A : Option Addr) (c : Nat) (p : PicD) (ps : List PicD) (w : World) (hp : Pics w A (p :: ps)) (hl : (p :: ps).length ≤ 1000000000) (hE : allE (p :: ps) = 290) :
    Calls Try.prog 29 #[.slice A (p :: ps).length c] w (PutPost w (besideE (p :: ps)) (besideP (p :: ps))) := by
  have call : ∀ W, Kept w W → Calls Try.prog 54 #[.slice A (p :: ps).length c] W fun e w' => e = .returned (.int .i64 290) ∧ Kept W w' := fun W hW => by
    have := all_any A c (p :: ps) W (hp.kept hW) hl
    rwa [hE] at this
  have hB : besideE (p :: ps) = 290 := by simp [besideE, hE]
  rw [hB]
  obtain ⟨L, hL⟩ : ∃ L, L = (p :: ps).length := ⟨_, rfl⟩
  have hL0 : ((L : Int) == 0) = false := by rw [hL]; simp; omega
  rw [← hL] at call hl ⊢
  have CALL := hide call
  have R0 := hide (Res0.new w w 24 (Below.refl _ _))
  clear hL hE hp call hB
  go_enter Try.func29, Try.ntmps29
  go_wp2_with (go_at_call 54; refine (CALL.out _ ((Below.refl _ _).alloc (Nat.le_refl _) _)).mono ?_; rintro e w1 ⟨rfl, hk1⟩; have R1 := R0.out.below hk1 (by simp); have t0 := R1.r0; have t1 := R1.r1; have t2 := R1.r2; have g0 := R1.f0; have g1 := R1.f1; have g2 := R1.f2; have R2 := hide R1; clear R1)
  exact bodyPost_ret (v := .tuple #[.agg #[.int .i64 0, .int .i64 0, .slice none 0 0], .int .i64 290]) (by simp [results, Try.results29, go_sem, t0, t1, t2]) rfl (by
    exact PutPost.err (by omega) (R2.out.stored _ _ _))

/-- A picture that grows: its two numbers, and its greys in memory of their own. -/
structure OutAt (w1 : World) (x y : Value) (xs : List UInt8) (W : World) (m : Nat) (A2 : Option Addr) (c2 : Nat) : Prop where
  box : Box W w1.heap.size x y (.slice A2 m c2)
  free : W.frozen? ⟨w1.heap.size, 2, none⟩ = false
  own : Own W (w1.heap.size + 1) 1 (.slice A2 m c2) m (bytesV xs)
  lt : w1.heap.size < W.heap.size
  below : Below w1.heap.size w1 W
theorem OutAt.grow {w1 : World} {x y : Value} {xs ys : List UInt8} {W w5 : World} {m m5 : Nat} {A2 A5 : Option Addr} {c2 c5 : Nat} (h : OutAt w1 x y xs W m A2 c2) (hb : Below (w1.heap.size + 1) W w5)
    (ho : Own w5 (w1.heap.size + 1) 1 (.slice A5 m5 c5) m5 (bytesV xs ++ bytesV ys)) : OutAt w1 x y (xs ++ ys) (w5.setCell ⟨w1.heap.size, 2, none⟩ (.slice A5 m5 c5)) m5 A5 c5 := by
  have hz5 : w1.heap.size < w5.heap.size := Nat.lt_of_lt_of_le h.lt hb.size
  have q0 := (hb.cell (p := ⟨w1.heap.size, 0, none⟩) (by simp)).trans h.box.1
  have q1 := (hb.cell (p := ⟨w1.heap.size, 1, none⟩) (by simp)).trans h.box.2.1
  have q2 := (hb.cell (p := ⟨w1.heap.size, 2, none⟩) (by simp)).trans h.box.2.2
  have qf := (hb.frozen (p := ⟨w1.heap.size, 2, none⟩) (by simp)).trans h.free
  refine ⟨⟨?_, ?_, ?_⟩, ?_, ?_, by simpa [World.setCell] using hz5, (h.below.trans (hb.mono (by omega))).setCell (by simp) _⟩
  · rw [World.cell?_setCell_other _ _ _ _ (by simp)]; exact q0
  · rw [World.cell?_setCell_other _ _ _ _ (by simp)]; exact q1
  · rw [World.cell?_setCell_same _ _ _ q2]
  · rw [World.frozen?_setCell]; exact qf
  · rw [bytesV_append]
    exact ho.far (fun k hk => by have := (ho.lt k hk).1; simp; omega) _
/-- The head of a loop that fills it. -/
def OutLoop (T : Nat) (w1 : World) (x y : Value) (f : Nat → List UInt8) (gh : Nat) (ix : Value) (wr : World) : Prop :=
  ∃ (k m : Nat) (A2 : Option Addr) (c2 : Nat), k + gh = T ∧ ix = .int .i64 k ∧ OutAt w1 x y (f k) wr m A2 c2

set_option maxRecDepth 100000 in
set_option maxHeartbeats 1600000 in
theorem beside_right (A : Option Addr) (c : Nat) (p : PicD) (ps : List PicD) (w : World) (hp : Pics w A (p :: ps)) (hl : (p :: ps).length ≤ 1000000) (hE : allE (p :: ps) = 0) :
    Calls Try.prog 29 #[.slice A (p :: ps).length c] w (PutPost w (besideE (p :: ps)) (besideP (p :: ps))) := by
  have call : ∀ W, Kept w W → Calls Try.prog 54 #[.slice A (p :: ps).length c] W fun e w' => e = .returned (.int .i64 0) ∧ Kept W w' := fun W hW => by
    have := all_any A c (p :: ps) W (hp.kept hW) (by omega)
    rwa [hE] at this
  obtain ⟨i0, hi, hi0, hi1, hi2⟩ := info_parts info_u8
  obtain ⟨qs, hqs⟩ : ∃ qs, qs = p :: ps := ⟨_, rfl⟩
  have hq0 : qs[0]? = some p := by rw [hqs]; rfl
  have HB : Hid (besideE qs = if qs.all (fun q => q.d == p.d) then (if sizeB (sumA qs) p.d then 0 else 4) else 291) := by show _ = _; rw [hqs]; simp [besideE, hE]
  have HBP : Hid (besideP qs = ⟨sumA qs, p.d, besideG qs p.d.toNat⟩) := by show _ = _; rw [hqs]; rfl
  rw [← hqs] at call hl hp hE ⊢
  clear hqs
  obtain ⟨L, hL⟩ : ∃ L, L = qs.length := ⟨_, rfl⟩
  have hLp : 0 < L := by rw [hL]; have := (List.getElem?_eq_some_iff.1 hq0).1; omega
  have hL0 : ((L : Int) == 0) = false := by simp; omega
  have hL1 : (0 : Int) < (L : Int) := by omega
  rw [← hL] at call hl ⊢
  have CALL := hide call
  have HL := hide hL
  have HE := hide hE
  have R0 := hide (Res0.new w w 24 (Below.refl _ _))
  obtain ⟨b, off, A0, n0, d0, rfl, hb, c0, c1, c2, hpa⟩ := hp.at_ hq0
  have HP := hide hp
  simp only [Nat.zero_mul, Nat.add_zero] at c1
  have hbnd := mayB_bounds (may_of_allE hE hq0)
  obtain ⟨v1, v2, v3, v4, -, -, -⟩ := hbnd
  clear hL hE hp call hpa c0 c2
  have HQ0 := hide hq0
  clear hq0
  go_enter Try.func29, Try.ntmps29
  go_upto_region 7 with (go_at_call 54; refine (CALL.out _ ((Below.refl _ _).alloc (Nat.le_refl _) _)).mono ?_; rintro e w1 ⟨rfl, hk1⟩; have k0 := (hk1.cells b (off + 1) (by simp; omega)).trans ((World.cell?_alloc_lt w _ ⟨b, off + 1, none⟩ hb).trans c1); have R1 := hide (R0.out.below hk1 (by simp)); have hz1 := hk1.size; simp at hz1)
  have BOX : ∀ W, Below w1.heap.size w1 W → Res0 w W w.heap.size ∧ Kept w W := fun W hW => by
    have h1 := R1.out.below hW R1.out.lt
    exact ⟨h1, h1.kept⟩
  have HBOX := hide BOX
  have hlt0 : w.heap.size < w1.heap.size := R1.out.lt
  clear BOX hk1 R0 R1 k0
  go_wp2
  go_loopg [28] L (fun gh ix wr => ∃ k : Nat, k + gh = L ∧ ix = .int .i64 k ∧ wr.cell? ⟨w1.heap.size, 0, none⟩ = some (.int .i64 (sumA (qs.take k))) ∧ wr.cell? ⟨w1.heap.size, 1, none⟩ = some (.int .i64 p.d) ∧ wr.cell? ⟨w1.heap.size, 2, none⟩ = some (.slice none 0 0) ∧
    wr.frozen? ⟨w1.heap.size, 0, none⟩ = false ∧ wr.frozen? ⟨w1.heap.size, 2, none⟩ = false ∧ Hid (∀ (i : Nat) (q : PicD), i < k → qs[i]? = some q → q.d = p.d) ∧ w1.heap.size < wr.heap.size ∧ Below w1.heap.size w1 wr)
  case atStart =>
    have hh : (w1.alloc (.cells #[.int .i64 0, .int .i64 p.d, .slice none 0 0] 24)).heap[w1.heap.size]? = some (.cells #[.int .i64 0, .int .i64 p.d, .slice none 0 0] 24) := by
      show (w1.heap.push _)[w1.heap.size]? = _
      simp
    refine ⟨0, by omega, rfl, by simp [sumA, sumI], by simp, by simp, ?_, ?_, fun i q hi => by omega, by simp, (Below.refl _ _).alloc (Nat.le_refl _) _⟩ <;> (simp only [World.frozen?, hh]; rfl)
  case round =>
    obtain ⟨k, hkg, rfl, o0, o1, o2, of1, of2, HI, hwz, hbw⟩ := hrel
    obtain ⟨⟨r0, r1, r2, f0, f1, f2, hrl, -, -⟩, hkw⟩ := HBOX.out wr hbw
    have RES := hide (HBOX.out wr hbw).1
    cases gk with
    | zero =>
      have hge : ¬ (k : Int) < L := by omega
      have hkL : k = L := by omega
      have hsame : qs.all (fun q => q.d == p.d) = true := by
        rw [List.all_eq_true]
        intro q hq
        obtain ⟨i, hi⟩ := List.getElem?_of_mem hq
        have := HI.out i q (by have := (List.getElem?_eq_some_iff.1 hi).1; have := HL.out; omega) hi
        simp [this]
      have htk : qs.take k = qs := List.take_of_length_le (by have := HL.out; omega)
      rw [htk] at o0
      have hsum := (sums_le HE.out L (by have := HL.out; omega)).2
      rw [← hkL, htk] at hsum
      obtain ⟨s1, s2⟩ := hsum
      have HB2 : Hid (besideE qs = if sizeB (sumA qs) p.d then 0 else 4) := by show _ = _; rw [HB.out, if_pos hsame]
      have hgl : ∀ q ∈ qs, 0 ≤ q.a ∧ (q.g.length : Int) = q.a * p.d.toNat := fun q hq => by
        obtain ⟨i, hi⟩ := List.getElem?_of_mem hq
        have h1 := HI.out i q (by have := (List.getElem?_eq_some_iff.1 hi).1; have := HL.out; omega) hi
        have h2 := mayB_bounds (may_of_allE HE.out hi)
        refine ⟨by omega, ?_⟩
        rw [h2.2.2.2.2.1, h1, Int.toNat_of_nonneg (by omega)]
      have HGL := hide hgl
      have HQD : Hid (∀ q ∈ qs, q.d = p.d) := by
        intro q hq
        obtain ⟨i, hi⟩ := List.getElem?_of_mem hq
        exact HI.out i q (by have := (List.getElem?_eq_some_iff.1 hi).1; have := HL.out; omega) hi
      clear hgl hsame htk hkL
      obtain ⟨S, hS⟩ : ∃ S, S = sumA qs := ⟨_, rfl⟩
      rw [← hS] at o0 s1 s2
      have HS := hide hS
      clear hS
      cases hz : sizeB S p.d with
      | false =>
        go_wp2_with (go_at_call 49; refine (size_any _ _ _ (by omega) (by omega) (by omega) (by omega)).mono ?_; rintro e w' ⟨rfl, rfl⟩)
        exact bodyPost_ret (v := .tuple #[.agg #[.int .i64 0, .int .i64 0, .slice none 0 0], .int .i64 4]) (by simp [results, Try.results29, go_sem, r0, r1, r2]) rfl (by
          rw [HB2.out, ← HS.out, hz]
          exact PutPost.err (E := 4) (by omega) (RES.out.stored _ _ _))
      | true =>
        have hE0 : besideE qs = 0 := by rw [HB2.out, ← HS.out, hz]; rfl
        obtain ⟨z1, z2, z3, z4, z5, z6⟩ := sizeB_bounds hz
        have HE0 := hide hE0
        clear hE0
        go_wp2_with (go_at_call 49; refine (size_any _ _ _ (by omega) (by omega) (by omega) (by omega)).mono ?_; rintro e w' ⟨rfl, rfl⟩)
        clear r0 r1 r2 f0 f1 f2 hrl RES hkw
        go_loopg [54] p.d.toNat (fun gh ix wy => OutLoop p.d.toNat w1 (.int .i64 S) (.int .i64 p.d) (besideG qs) gh ix wy)
        case atStart => exact ⟨0, 0, none, 0, by omega, rfl, ⟨o0, o1, o2⟩, of2, Own.nil _ _ _, hwz, hbw⟩
        case round =>
          clear o0 o1 o2 of1 of2 hwz hbw
          obtain ⟨k2, m2, A2, c2, hkg2, rfl, hout⟩ := hrel
          cases gk with
          | zero =>
            have hge2 : ¬ (k2 : Int) < p.d := by omega
            have hkd : k2 = p.d.toNat := by omega
            obtain ⟨⟨r0, r1, r2, f0, f1, f2, hrl, -, -⟩, hkw⟩ := HBOX.out wr hout.below
            have RES := hide (HBOX.out wr hout.below).1
            have HO := hide hout.own
            obtain ⟨o0, o1, o2⟩ := hout.box
            have HKD := hide hkd
            clear hout hkd
            go_wp2
            exact bodyPost_ret (v := .tuple #[.agg #[.int .i64 S, .int .i64 p.d, .slice A2 m2 c2], .int .i64 0]) (by simp [results, Try.results29, go_sem, r0, r1, r2]) rfl (by
              rw [HE0.out, HBP.out, ← HS.out]
              exact put_ok (P := ⟨S, p.d, besideG qs p.d.toNat⟩) HO.out (by rw [HKD.out]) RES.out (by omega))
          | succ g2 =>
            have hlt2 : (k2 : Int) < p.d := by omega
            obtain ⟨o0, o1, o2⟩ := hout.box
            have HOUT := hide hout
            clear hout
            go_wp2
            go_loopg [59] L (fun gh ix wy => OutLoop L w1 (.int .i64 S) (.int .i64 p.d) (fun j => besideG qs k2 ++ rowsAt (qs.take j) k2) gh ix wy)
            case atStart => exact ⟨0, m2, A2, c2, by omega, rfl, by simpa [rowsAt] using HOUT.out⟩
            case round =>
              clear o0 o1 o2 HOUT
              obtain ⟨j, m, A2, c2, hjg, rfl, hout⟩ := hrel
              dsimp only at hout
              cases gk with
              | zero =>
                have hgej : ¬ (j : Int) < L := by omega
                have hjl : j = L := by omega
                have htk : qs.take j = qs := List.take_of_length_le (by have := HL.out; omega)
                have HOUT : Hid (OutAt w1 (.int .i64 S) (.int .i64 p.d) (besideG qs (k2 + 1)) wr m A2 c2) := by
                  have := hout
                  rw [htk] at this
                  exact this
                clear hout htk hjl
                go_wp2
                go_roundg g2
                case measure => omega
                case rel => exact ⟨k2 + 1, m, A2, c2, by omega, by go_num, HOUT.out⟩
              | succ g3 =>
                have hltj : (j : Int) < L := by omega
                obtain ⟨q, hqk⟩ : ∃ q, qs[j]? = some q := ⟨_, List.getElem?_eq_getElem (by have := HL.out; omega)⟩
                obtain ⟨⟨r0, r1, r2, f0, f1, f2, hrl, -, -⟩, hkw⟩ := HBOX.out wr hout.below
                obtain ⟨b', off', A', n, c', hA', hb', c0', c1', c2', hpa⟩ := (HP.out.kept hkw).at_ hqk
                injection hA' with hA'
                injection hA' with hA1 hA2
                subst hA1
                subst hA2
                have hmay := may_of_allE HE.out hqk
                have hqd := HQD.out q (List.mem_of_getElem? hqk)
                have hrm := bes_room qs p.d.toNat HGL.out hqk (k := k2) (by omega) (by rw [← HS.out, Int.toNat_of_nonneg (by omega)]; exact z6)
                have hml := hout.own.1
                rw [bytesV_length] at hml
                rw [hpa.len] at hmay
                obtain ⟨y1, y2, y3, y4, y5, y6, y7⟩ := mayB_bounds hmay
                have HNX := hide (rowsAt_next hqk k2)
                have HM := hide hmay
                have HOUT := hide hout
                have o2 := hout.box.2.2
                have hcap := hpa.cap
                have HR := hide hpa.row
                have hwz2 := hout.lt
                have q7 : (0 : Int) ≤ k2 := by omega
                have q8 : (k2 : Int) < q.d := by omega
                have HRM := hide hrm.2
                have hmb : m + q.a.toNat ≤ 4194304 := by omega
                clear hpa hmay hqd hrm hml hout hqk r0 r1 r2 f0 f1 f2 hrl hkw y5
                go_wp2_with fail
                obtain ⟨W, hW⟩ : ∃ W, W = wr.alloc (.cells #[.int .i64 q.a, .int .i64 q.d, .slice A' n c'] 24) := ⟨_, rfl⟩
                have hKW : Kept wr W := by rw [hW]; exact (Below.refl _ _).alloc (Nat.le_refl _) _
                have hbx : Box W wr.heap.size (.int .i64 q.a) (.int .i64 q.d) (.slice A' n c') := by rw [hW]; exact Box.new _ _ _ _ _ _ rfl
                have ho2 : W.cell? ⟨w1.heap.size, 2, none⟩ = some (.slice A2 m c2) := (hKW.cells _ _ hwz2).trans o2
                have hzW : wr.heap.size < W.heap.size := lt_of_cell hbx.1
                have HKW := hide hKW
                have HS4 := hide (And.intro hbx.1 (And.intro hbx.2.1 (And.intro hbx.2.2 ho2)))
                have SK : Hid (∀ w3 w5, Kept W w3 → w3.grownBy w5 (Value.slice A2 m c2).ownBlock → (w5.cell? ⟨wr.heap.size, 0, none⟩ = some (.int .i64 q.a) ∧ w5.cell? ⟨wr.heap.size, 1, none⟩ = some (.int .i64 q.d) ∧ w5.cell? ⟨wr.heap.size, 2, none⟩ = some (.slice A' n c') ∧ w5.cell? ⟨w1.heap.size, 2, none⟩ = some (.slice A2 m c2)) ∧ Below (w1.heap.size + 1) wr w5) := by
                  intro w3 w5 hk hg
                  have hl3 : wr.heap.size < w3.heap.size := Nat.lt_of_lt_of_le hzW hk.size
                  have hne1 : some wr.heap.size ≠ (Value.slice A2 m c2).ownBlock := fun e => by have := (HOUT.out.own.lt _ e.symm).2; omega
                  have hne2 : some w1.heap.size ≠ (Value.slice A2 m c2).ownBlock := fun e => by have := (HOUT.out.own.lt _ e.symm).1; omega
                  have far : ∀ o, w5.cell? ⟨wr.heap.size, o, none⟩ = W.cell? ⟨wr.heap.size, o, none⟩ := fun o => (hg.cell_far ⟨wr.heap.size, o, none⟩ hl3 hne1).trans (hk.cells _ _ hzW)
                  refine ⟨⟨(far 0).trans hbx.1, (far 1).trans hbx.2.1, (far 2).trans hbx.2.2, (hg.cell_far ⟨w1.heap.size, 2, none⟩ (by show w1.heap.size < _; omega) hne2).trans ((hk.cells _ _ (by omega)).trans ho2)⟩, ?_⟩
                  exact below_append (w := w3) ((hKW.mono (by omega)).trans (hk.mono (by omega))) ((HOUT.out.own.kept hKW).kept hk) (Nat.le_refl _) (by omega) hg
                rw [← hW]
                clear hW hKW hbx ho2 o2 c0' c1' c2'
                refine wp_region_L (fun X => X.cell? ⟨wr.heap.size, 0, none⟩ = some (.int .i64 q.a) ∧ X.cell? ⟨wr.heap.size, 1, none⟩ = some (.int .i64 q.d) ∧ X.cell? ⟨wr.heap.size, 2, none⟩ = some (.slice A' n c') ∧ X.cell? ⟨w1.heap.size, 2, none⟩ = some (.slice A2 m c2)) 7 (by kernel_rfl) ?_ (fun hHeld => ?_)
                · first | exact HS4.out | assumption
                refine wpAnyL_take (i := 0) (v := ?_) (some 63) rfl rfl (by kernel_rfl) (by kernel_rfl) (by kernel_rfl) (by kernel_rfl) (fun _ _ _ h => h) (Or.inl ⟨by rfl, ?_⟩) (by assumption) ?_
                rotate_left
                · intro w hSw; (try dsimp only at hSw); go_simp; (try with_reducible rfl)
                try simp only [Act.put, List.setIfInBounds_toArray, List.set_cons_zero, List.set_cons_succ]
                refine wpAnyL_take (i := 1) (v := ?_) (some 64) rfl rfl (by kernel_rfl) (by kernel_rfl) (by kernel_rfl) (by kernel_rfl) (fun _ _ _ h => h) (Or.inl ⟨by rfl, ?_⟩) (by assumption) ?_
                rotate_left
                · intro w hSw; (try dsimp only at hSw); go_simp; (try with_reducible rfl)
                try simp only [Act.put, List.setIfInBounds_toArray, List.set_cons_zero, List.set_cons_succ]
                refine wpAnyL_take (i := 2) (v := ?_) (some 65) rfl rfl (by kernel_rfl) (by kernel_rfl) (by kernel_rfl) (by kernel_rfl) (fun _ _ _ h => h) (Or.inl ⟨by rfl, ?_⟩) (by assumption) ?_
                rotate_left
                · intro w hSw; (try dsimp only at hSw); go_simp; (try with_reducible rfl)
                try simp only [Act.put, List.setIfInBounds_toArray, List.set_cons_zero, List.set_cons_succ]
                refine wpAnyL_take (i := 3) (v := ?_) (some 66) rfl rfl (by kernel_rfl) (by kernel_rfl) (by kernel_rfl) (by kernel_rfl) (fun _ _ _ h => h) (Or.inl ⟨by rfl, ?_⟩) (by assumption) ?_
                rotate_left
                · intro w hSw; (try dsimp only at hSw); go_simp; (try with_reducible rfl)
                try simp only [Act.put, List.setIfInBounds_toArray, List.set_cons_zero, List.set_cons_succ]
                refine wpAnyL_one (i := 4) (by kernel_rfl) rfl (fun K hK => ?_)
                go_simp
                (refine (row_any q.a q.d A' n c' _ _ HM.out q7 q8 hcap).mono ?_; rintro e w3 ⟨⟨A3, rfl, hrow3⟩, hk3⟩; have hk3' : Kept W w3 := ((Below.refl _ W).drew).trans hk3; have hS3 : w3.cell? ⟨wr.heap.size, 0, none⟩ = some (.int .i64 q.a) ∧ w3.cell? ⟨wr.heap.size, 1, none⟩ = some (.int .i64 q.d) ∧ w3.cell? ⟨wr.heap.size, 2, none⟩ = some (.slice A' n c') ∧ w3.cell? ⟨w1.heap.size, 2, none⟩ = some (.slice A2 m c2) := ⟨(hk3'.cells _ _ (lt_of_cell HS4.out.1)).trans HS4.out.1, (hk3'.cells _ _ (lt_of_cell HS4.out.2.1)).trans HS4.out.2.1, (hk3'.cells _ _ (lt_of_cell HS4.out.2.2.1)).trans HS4.out.2.2.1, (hk3'.cells _ _ (lt_of_cell HS4.out.2.2.2)).trans HS4.out.2.2.2⟩)
                refine hK.out _ _ ?_ (fun hHeld => ?_)
                · first | exact HS4.out | assumption
                clear hK K
                try simp only [Act.put, List.setIfInBounds_toArray, List.set_cons_zero, List.set_cons_succ]
                refine wpAnyL_one (i := 5) (by kernel_rfl) rfl (fun K hK => ?_)
                (refine step_append_row _ rfl _ _ 22 rfl (w1.heap.size + 1) 5 i0 (.int .u8 0) 1 1 Try.underlying22 hi hi0 hi1 hi2 rfl (by decide) (.slice A2 m c2) m _ rfl ((HOUT.out.own.kept HKW.out).kept hk3') A3 q.a.toNat q.a.toNat (bytesV (rowOf q.a.toNat q.g k2)) rfl (by rw [bytesV_length, HRM.out, Nat.mul_one]) (by have h9 := hrow3 w3 _ ((HR.out.kept HKW.out).kept hk3'); rw [Int.toNat_natCast] at h9; simpa only [bytesV_drop, bytesV_take, rowOf] using h9) (bytesV_one _) (by unfold maxLen; omega) (by omega) (by have := hk3'.size; omega) ?_; intro v5 w5 hown5 hg5 hat5; have hS5 := SK.out w3 w5 hk3' hg5; obtain ⟨A5, c5, rfl, -, -, -, -, -⟩ := hown5.form; have hS6 := hS5.1; have ef := (hS5.2.frozen (p := ⟨w1.heap.size, 2, none⟩) (by simp)).trans HOUT.out.free)
                refine hK.out _ _ ?_ (fun hHeld => ?_)
                · first | exact HS4.out | assumption
                clear hK K
                try simp only [Act.put, List.setIfInBounds_toArray]
                refine wpAnyL_one (i := 6) (by kernel_rfl) rfl (fun K hK => ?_)
                go_simp
                refine hK.out _ _ ?_ (fun hHeld => ?_)
                · first | exact HS4.out | assumption
                clear hK K
                try simp only [Act.put, List.setIfInBounds_toArray, List.set_cons_zero, List.set_cons_succ]
                refine wpAnyL_end (by kernel_rfl) rfl (fun K hK => ?_)
                go_simp
                refine hK.out _ _ ?_
                clear hK K
                try simp only [Act.put, List.setIfInBounds_toArray, List.set_cons_zero, List.set_cons_succ]
                refine wpAnyL_done (by kernel_rfl) ?_ _
                have HG := hide (HOUT.out.grow hS5.2 hown5)
                clear hown5 hg5 hat5 ef hS5 hS6 hk3 hk3' hrow3 hS3
                go_wp2
                go_roundg g3
                case measure => omega
                case rel =>
                  refine ⟨j + 1, m + q.a.toNat, A5, c5, by omega, by go_num, ?_⟩
                  have h9 := HG.out
                  rw [List.append_assoc, ← HNX.out] at h9
                  exact h9
    | succ gh =>
      have hlt : (k : Int) < L := by omega
      obtain ⟨q, hqk⟩ : ∃ q, qs[k]? = some q := ⟨_, List.getElem?_eq_getElem (by have := HL.out; omega)⟩
      obtain ⟨b', off', A', n, c', hA', hb', c0', c1', c2', hpa⟩ := (HP.out.kept hkw).at_ hqk
      injection hA' with hA'
      injection hA' with hA1 hA2
      subst hA1
      subst hA2
      have hsum := (sums_le HE.out k (by have := HL.out; omega)).2
      have hbq := mayB_bounds (may_of_allE HE.out hqk)
      obtain ⟨s1, s2⟩ := hsum
      obtain ⟨y1, y2, y3, y4, -, -, -⟩ := hbq
      have HQK := hide hqk
      have hnx := hide (sumA_next hqk)
      generalize sumA (qs.take k) = S at *
      clear hqk hpa
      by_cases hqa : q.d = p.d
      · have hq1 : (q.d != p.d) = false := by simp [hqa]
        have HQA := hide hqa
        clear hqa
        go_wp2
        go_roundg gh
        case measure => omega
        case rel =>
          have hwz' : w1.heap.size < (wr.setCell ⟨w1.heap.size, 0, none⟩ (.int .i64 (S + q.a))).heap.size := by simpa [World.setCell] using hwz
          refine ⟨k + 1, by omega, by go_num, ?_, ?_, ?_, ?_, ?_, fun i q' hi hq' => ?_, ?_, ?_⟩
          · rw [World.cell?_alloc_lt _ _ ⟨w1.heap.size, 0, none⟩ hwz', World.cell?_setCell_same _ _ _ o0, hnx.out]
          · rw [World.cell?_alloc_lt _ _ ⟨w1.heap.size, 1, none⟩ hwz', World.cell?_setCell_other _ _ _ _ (by simp)]; exact o1
          · rw [World.cell?_alloc_lt _ _ ⟨w1.heap.size, 2, none⟩ hwz', World.cell?_setCell_other _ _ _ _ (by simp)]; exact o2
          · rw [((Below.refl _ _).alloc (Nat.le_refl _) _).frozen (p := ⟨w1.heap.size, 0, none⟩) hwz', World.frozen?_setCell]; exact of1
          · rw [((Below.refl _ _).alloc (Nat.le_refl _) _).frozen (p := ⟨w1.heap.size, 2, none⟩) hwz', World.frozen?_setCell]; exact of2
          · by_cases hik : i = k
            · subst hik
              rw [HQK.out] at hq'
              injection hq' with hq'
              subst hq'
              exact HQA.out
            · exact HI.out i q' (by omega) hq'
          · simp [World.setCell]; omega
          · exact (hbw.setCell (by simp) _).alloc (by simp [World.setCell]; omega) _
      · have hq1 : (q.d != p.d) = true := by simp [hqa]
        have HQA := hide hqa
        clear hqa
        go_wp2
        exact bodyPost_ret (v := .tuple #[.agg #[.int .i64 0, .int .i64 0, .slice none 0 0], .int .i64 291]) (by simp [results, Try.results29, go_sem, r0, r1, r2, hrl]) rfl (by
          have hE1 : besideE qs = 291 := by
            rw [HB.out, if_neg]
            intro h
            have := List.all_eq_true.1 h q (List.mem_of_getElem? HQK.out)
            exact HQA.out (by simpa using this)
          rw [hE1]
          exact PutPost.err (by omega) (RES.out.stored2 _ _ _ _))

theorem beside_any (A : Option Addr) (c : Nat) (ps : List PicD) (w : World) (hp : Pics w A ps) (hl : ps.length ≤ 1000000) :
    Calls Try.prog 29 #[.slice A ps.length c] w (PutPost w (besideE ps) (besideP ps)) := by
  cases ps with
  | nil => exact beside_none A c w
  | cons p ps =>
    rcases allE_two (p :: ps) with h | h
    · exact beside_right A c p ps w hp hl h
    · exact beside_wrong A c p ps w hp (by omega) h
end Go.Proofs.Ytbhgcbgaadnfpaa
