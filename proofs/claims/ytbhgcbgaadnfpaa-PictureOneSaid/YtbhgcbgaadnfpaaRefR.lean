/- The reference's Read, walked. -/
import Derived.Test.YtbhgcbgaadnfpaaRefW
import Derived.Test.YtbhgcbgaadnfpaaPicR
namespace Go.Proofs.Ytbhgcbgaadnfpaa
open Go.RowKit

/-- The result's block of a reader's call: still nothing. -/
structure RBase (w W : World) : Prop where
  r0 : W.cell? ⟨w.heap.size, 0, none⟩ = some (.int .i64 0)
  r1 : W.cell? ⟨w.heap.size, 1, none⟩ = some (.int .i64 0)
  r2 : W.cell? ⟨w.heap.size, 2, none⟩ = some (.slice none 0 0)
  f0 : W.frozen? ⟨w.heap.size, 0, none⟩ = false
  f1 : W.frozen? ⟨w.heap.size, 1, none⟩ = false
  f2 : W.frozen? ⟨w.heap.size, 2, none⟩ = false
  lt : w.heap.size < W.heap.size
  kept : Kept w W
theorem RBase.below {w W W' : World} {B : Nat} (h : RBase w W) (hb : Below B W W') (hB : w.heap.size < B) : RBase w W' := by
  have c : ∀ o, W'.cell? ⟨w.heap.size, o, none⟩ = W.cell? ⟨w.heap.size, o, none⟩ := fun o => hb.cell (p := ⟨w.heap.size, o, none⟩) (by simp; omega)
  have f : ∀ o, W'.frozen? ⟨w.heap.size, o, none⟩ = W.frozen? ⟨w.heap.size, o, none⟩ := fun o => hb.frozen (p := ⟨w.heap.size, o, none⟩) (by simp; omega)
  exact ⟨(c _).trans h.r0, (c _).trans h.r1, (c _).trans h.r2, (f _).trans h.f0, (f _).trans h.f1, (f _).trans h.f2, Nat.lt_of_lt_of_le h.lt hb.size, h.kept.trans (hb.mono (by omega))⟩
theorem frozen_new (w : World) (cs : Array Value) (t : TypeId) (o : Nat) : (w.alloc (.cells cs t)).frozen? ⟨w.heap.size, o, none⟩ = false := by
  have hh : (w.alloc (.cells cs t)).heap[w.heap.size]? = some (.cells cs t) := by
    show (w.heap.push _)[w.heap.size]? = _
    simp
  simp only [World.frozen?, hh]; rfl
theorem rbase_start (w : World) (r : TypeId) : RBase w (w.alloc (.cells #[.int .i64 0, .int .i64 0, .slice none 0 0] r)) :=
  ⟨by simp, by simp, by simp, frozen_new _ _ _ _, frozen_new _ _ _ _, frozen_new _ _ _ _, by simp, (Below.refl _ _).alloc (Nat.le_refl _) _⟩

theorem rerr_kept {w W : World} (hk : Kept w W) (hl : w.heap.size < W.heap.size) (o : Obj) {u0 u1 u2 : Value} :
    Kept w ((((W.setCell ⟨w.heap.size, 0, none⟩ u0).setCell ⟨w.heap.size, 1, none⟩ u1).setCell ⟨w.heap.size, 2, none⟩ u2).alloc o) :=
  (((hk.setCell (by simp) _).setCell (by simp) _).setCell (by simp) _).alloc (by simp [World.setCell]; omega) _
theorem rerr_kept0 {w W : World} (hk : Kept w W) {u0 u1 u2 : Value} :
    Kept w (((W.setCell ⟨w.heap.size, 0, none⟩ u0).setCell ⟨w.heap.size, 1, none⟩ u1).setCell ⟨w.heap.size, 2, none⟩ u2) :=
  ((hk.setCell (by simp) _).setCell (by simp) _).setCell (by simp) _

/-- The two numbers, behind j of their eight bytes. -/
def num0 (l : List UInt8) (j : Nat) : Nat := beVal ((l.drop 4).take (min j 4))
def num1 (l : List UInt8) (j : Nat) : Nat := beVal ((l.drop 8).take (j - 4))
theorem num_low {l : List UInt8} {j : Nat} {y : UInt8} (hj : j < 4) (hy : l[4 + j]? = some y) : num0 l (j + 1) = num0 l j * 256 + y.toNat ∧ num1 l (j + 1) = num1 l j := by
  constructor
  · unfold num0
    rw [show min (j + 1) 4 = min j 4 + 1 by omega, List.take_add_one, List.getElem?_drop, show 4 + min j 4 = 4 + j by omega, hy]
    exact beVal_snoc _ _
  · unfold num1
    rw [show j + 1 - 4 = 0 by omega, show j - 4 = 0 by omega]
theorem num_high {l : List UInt8} {j : Nat} {y : UInt8} (hj : 4 ≤ j) (hy : l[4 + j]? = some y) : num0 l (j + 1) = num0 l j ∧ num1 l (j + 1) = num1 l j * 256 + y.toNat := by
  constructor
  · unfold num0
    rw [show min (j + 1) 4 = 4 by omega, show min j 4 = 4 by omega]
  · unfold num1
    rw [show j + 1 - 4 = j - 4 + 1 by omega, List.take_add_one, List.getElem?_drop, show 8 + (j - 4) = 4 + j by omega, hy]
    exact beVal_snoc _ _
theorem num0_lt (l : List UInt8) (j : Nat) (hj : j < 4) : num0 l j < 16777216 := by
  refine Nat.lt_of_lt_of_le (beVal_lt _) ?_
  have : ((l.drop 4).take (min j 4)).length ≤ 3 := by simp; omega
  exact Nat.pow_le_pow_right (by omega) this
theorem num1_lt (l : List UInt8) (j : Nat) (hj : j < 8) : num1 l j < 16777216 := by
  refine Nat.lt_of_lt_of_le (beVal_lt _) ?_
  have : ((l.drop 8).take (j - 4)).length ≤ 3 := by simp; omega
  exact Nat.pow_le_pow_right (by omega) this

set_option maxRecDepth 100000 in
set_option maxHeartbeats 400000 in
theorem rread_short (s : ByteArray) (w : World) (hs : s.size < 12) : Calls Try.prog 16 #[.string s] w (ReadPost w (readS s.data.toList)) := by
  rw [readS_head (by simp [headOk]; omega)]
  have h1 : (s.size : Int) < 12 := by omega
  go_enter Try.func16, Try.ntmps16
  go_wp2
  exact bodyPost_ret (v := .tuple #[.agg #[.int .i64 0, .int .i64 0, .slice none 0 0], .int .i64 292]) (by simp [results, Try.results16, go_sem]) rfl ⟨rfl, (Below.refl _ _).alloc (Nat.le_refl _) _⟩
set_option maxRecDepth 100000 in
set_option maxHeartbeats 400000 in
theorem rread_head (s : ByteArray) (w : World) (hs : 12 ≤ s.size) (hp : headOk s.data.toList = false) : Calls Try.prog 16 #[.string s] w (ReadPost w (readS s.data.toList)) := by
  rw [readS_head hp]
  have h1 : ¬ (s.size : Int) < 12 := by omega
  have h4 : (4 : Int) ≤ (s.size : Int) := by omega
  have hh := head_eq s hs
  rw [hp] at hh
  clear hp
  go_enter Try.func16, Try.ntmps16
  go_wp2
  exact bodyPost_ret (v := .tuple #[.agg #[.int .i64 0, .int .i64 0, .slice none 0 0], .int .i64 292]) (by simp [results, Try.results16, go_sem]) rfl ⟨rfl, (Below.refl _ _).alloc (Nat.le_refl _) _⟩

set_option maxRecDepth 100000 in
set_option maxHeartbeats 3200000 in
theorem rread_body (s : ByteArray) (w : World) (hs : 12 ≤ s.size) (hsm : s.size ≤ maxLen) (hp : headOk s.data.toList = true) : Calls Try.prog 16 #[.string s] w (ReadPost w (readS s.data.toList)) := by
  have h1 : ¬ (s.size : Int) < 12 := by omega
  have h4 : (4 : Int) ≤ (s.size : Int) := by omega
  have hh := head_eq s hs
  rw [hp] at hh
  have hn4 := numAt_lt s.data.toList 4
  have hn8 := numAt_lt s.data.toList 8
  have hsz : (s.size : Int) ≤ 9223372036854775807 := by unfold maxLen at hsm; omega
  obtain ⟨i0, hi, hi0, hi1, hi2⟩ := info_parts info_u8
  have HP := hide hp
  have B0 := hide (rbase_start w 24)
  clear hp
  go_enter Try.func16, Try.ntmps16
  go_wp2
  go_loopg [5] 8 (fun gh ix wr => ∃ j : Nat, j + gh = 8 ∧ ix = .int .i64 ((4 + j : Nat) : Int) ∧ wr.cell? ⟨w.heap.size + 1, 0, none⟩ = some (.int .i64 (num0 s.data.toList j)) ∧ wr.cell? ⟨w.heap.size + 1, 1, none⟩ = some (.int .i64 (num1 s.data.toList j)) ∧
    wr.frozen? ⟨w.heap.size + 1, 0, none⟩ = false ∧ wr.frozen? ⟨w.heap.size + 1, 1, none⟩ = false ∧ w.heap.size + 1 < wr.heap.size ∧ RBase w wr)
  case atStart =>
    have hf : ∀ o, ((w.alloc (.cells #[.int .i64 0, .int .i64 0, .slice none 0 0] 24)).alloc (.cells #[.int .i64 0, .int .i64 0] 101)).frozen? ⟨w.heap.size + 1, o, none⟩ = false := fun o => by
      have := frozen_new (w.alloc (.cells #[.int .i64 0, .int .i64 0, .slice none 0 0] 24)) #[.int .i64 0, .int .i64 0] 101 o
      rw [World.size_alloc] at this
      exact this
    refine ⟨0, by omega, rfl, by simp [num0, beVal], by simp [num1, beVal], hf _, hf _, by simp, B0.out.below ((Below.refl _ _).alloc (Nat.le_refl _) _) (by simp)⟩
  case round =>
    obtain ⟨j, hjg, rfl, c0, c1, f0, f1, hwz, hb⟩ := hrel
    cases gk with
    | zero =>
      have hj8 : j = 8 := by omega
      subst hj8
      rw [show num0 s.data.toList 8 = numAt s.data.toList 4 from rfl] at c0
      rw [show num1 s.data.toList 8 = numAt s.data.toList 8 from rfl] at c1
      have hge : ¬ (4 + ((8 : Nat) : Int)) < 12 := by omega
      obtain ⟨na, hna⟩ : ∃ na, na = numAt s.data.toList 4 := ⟨_, rfl⟩
      obtain ⟨nd, hnd⟩ : ∃ nd, nd = numAt s.data.toList 8 := ⟨_, rfl⟩
      rw [← hna] at c0 hn4
      rw [← hnd] at c1 hn8
      have HN := hide (And.intro hna hnd)
      have BOX : Hid (∀ W, Below (w.heap.size + 1) wr W → RBase w W) := fun W hW => hb.below hW (by omega)
      have hwz' : w.heap.size < wr.heap.size := by omega
      obtain ⟨r0, r1, r2, g0, g1, g2, hlt, hkept⟩ := hb
      clear hna hnd f0 f1 hh
      cases hz : sizeB na nd with
      | false =>
        have hzz : (na : Int) < 1 ∨ (nd : Int) < 1 ∨ 4194304 < (na : Int) ∨ 4194304 < (nd : Int) ∨ 4194304 < (na : Int) * nd := by
          by_cases t : (na : Int) < 1 ∨ (nd : Int) < 1 ∨ 4194304 < (na : Int) ∨ 4194304 < (nd : Int) ∨ 4194304 < (na : Int) * nd
          · exact t
          · exfalso
            have : sizeB na nd = true := by
              rw [sizeB_iff]
              exact ⟨by omega, by omega, by omega, (Int.le_ediv_iff_mul_le (by omega)).2 (by rw [Int.mul_comm]; omega)⟩
            rw [this] at hz; cases hz
        have HZ := hide hz
        have m1 : (0 : Int) ≤ (na : Int) * nd := Int.mul_nonneg (by omega) (by omega)
        have m2 : (na : Int) * nd ≤ 4294967296 * 2147483647 ∨ 4194304 < (na : Int) ∨ 4194304 < (nd : Int) := by
          by_cases t : (na : Int) ≤ 4194304 ∧ (nd : Int) ≤ 4194304
          · have : (na : Int) * nd ≤ 4194304 * 4194304 := Int.mul_le_mul t.1 t.2 (by omega) (by omega)
            omega
          · omega
        clear hz
        by_cases t1 : (na : Int) < 1
        · (go_wp2; exact bodyPost_ret (v := .tuple #[.agg #[.int .i64 0, .int .i64 0, .slice none 0 0], .int .i64 292]) (by simp [results, Try.results16, go_sem, r0, r1, r2, hwz']) rfl (by rw [readS_size (by rw [← HN.out.1, ← HN.out.2]; exact HZ.out)]; exact ⟨rfl, rerr_kept hkept hlt _⟩))
        · by_cases t2 : (nd : Int) < 1
          · (go_wp2; exact bodyPost_ret (v := .tuple #[.agg #[.int .i64 0, .int .i64 0, .slice none 0 0], .int .i64 292]) (by simp [results, Try.results16, go_sem, r0, r1, r2, hwz']) rfl (by rw [readS_size (by rw [← HN.out.1, ← HN.out.2]; exact HZ.out)]; exact ⟨rfl, rerr_kept hkept hlt _⟩))
          · by_cases t3 : 4194304 < (na : Int)
            · (go_wp2; exact bodyPost_ret (v := .tuple #[.agg #[.int .i64 0, .int .i64 0, .slice none 0 0], .int .i64 292]) (by simp [results, Try.results16, go_sem, r0, r1, r2, hwz']) rfl (by rw [readS_size (by rw [← HN.out.1, ← HN.out.2]; exact HZ.out)]; exact ⟨rfl, rerr_kept hkept hlt _⟩))
            · by_cases t4 : 4194304 < (nd : Int)
              · (go_wp2; exact bodyPost_ret (v := .tuple #[.agg #[.int .i64 0, .int .i64 0, .slice none 0 0], .int .i64 292]) (by simp [results, Try.results16, go_sem, r0, r1, r2, hwz']) rfl (by rw [readS_size (by rw [← HN.out.1, ← HN.out.2]; exact HZ.out)]; exact ⟨rfl, rerr_kept hkept hlt _⟩))
              · have t5 : 4194304 < (na : Int) * nd := by omega
                have m3 : (na : Int) * nd ≤ 4294967296 * 2147483647 := by omega
                (go_wp2; exact bodyPost_ret (v := .tuple #[.agg #[.int .i64 0, .int .i64 0, .slice none 0 0], .int .i64 292]) (by simp [results, Try.results16, go_sem, r0, r1, r2, hwz']) rfl (by rw [readS_size (by rw [← HN.out.1, ← HN.out.2]; exact HZ.out)]; exact ⟨rfl, rerr_kept hkept hlt _⟩))
      | true =>
        obtain ⟨z1, z2, z3, z4, z5, z6⟩ := sizeB_bounds hz
        have HB2 : Hid (∀ W, Below wr.heap.size wr W → RBase w W) := fun W hW => BOX.out W (hW.mono (by omega))
        have hwz1 : w.heap.size + 1 < wr.heap.size := hwz
        clear hwz
        have hgo : ∀ V, V = wr → wr = V := fun _ h => h.symm
        obtain ⟨w2, hw2⟩ : ∃ w2, w2 = wr := ⟨_, rfl⟩
        clear hgo
        subst hw2
        have BOX2 := HB2
        clear HB2 BOX
        by_cases hodd : s.size % 2 = 0
        · have hod : ((s.size : Int) % 2 != 0) = false := by simp; omega
          go_wp2
          have hev := hide hodd
          clear hodd hod
          go_loopg [7] (s.size - 12) (fun gh at_ wr => ∃ (j m : Nat) (A : Option Addr) (c : Nat), 12 + 2 * j ≤ s.size ∧ 12 + 2 * j + gh = s.size ∧ at_ = .int .i64 ((12 + 2 * j : Nat) : Int) ∧ wr.cell? ⟨w2.heap.size, 0, none⟩ = some (.int .i64 na) ∧ wr.cell? ⟨w2.heap.size, 1, none⟩ = some (.int .i64 nd) ∧
            wr.cell? ⟨w2.heap.size, 2, none⟩ = some (.slice A m c) ∧ wr.frozen? ⟨w2.heap.size, 2, none⟩ = false ∧ Own wr (w2.heap.size + 1) 1 (.slice A m c) m (bytesV (expand ((s.data.toList.drop 12).take (2 * j)))) ∧ (m : Int) ≤ na * nd ∧ w2.heap.size < wr.heap.size ∧ Below w2.heap.size w2 wr)
          case atStart =>
            exact ⟨0, 0, none, 0, by omega, by omega, rfl, by simp, by simp, by simp, frozen_new _ _ _ _, by simp [expand, bytesV]; exact Own.nil _ _ _, by omega, by simp, (Below.refl _ _).alloc (Nat.le_refl _) _⟩
          case round =>
            obtain ⟨j, m, A, c, hjs, hjg, rfl, p0, p1, p2, pf, hown, hmn, hwz, hbw⟩ := hrel
            clear r0 r1 r2 g0 g1 g2 hlt hkept
            obtain ⟨r0, r1, r2, g0, g1, g2, hlt, hkept⟩ := BOX2.out wr hbw
            cases gk with
            | zero =>
              have hje : 12 + 2 * j = s.size := by omega
              have hge : ¬ (12 + 2 * (j : Int)) < (s.size : Int) := by omega
              have hml : m = (expand ((s.data.toList.drop 12).take (2 * j))).length := by have := hown.1; rw [bytesV_length] at this; omega
              have hall : (s.data.toList.drop 12).take (2 * j) = s.data.toList.drop 12 := List.take_of_length_le (by rw [List.length_drop]; simpa using (by omega : s.size - 12 ≤ 2 * j))
              rw [hall] at hml hown
              obtain ⟨G, hG⟩ : ∃ G, G = expand (s.data.toList.drop 12) := ⟨_, rfl⟩
              rw [← hG] at hown hml
              have hrow := hown.row
              obtain ⟨A', c', hv, hmc, -, -, -, -⟩ := hown.form
              injection hv with hv1 hv2 hv3
              subst hv1; subst hv3
              obtain ⟨t, ht⟩ : ∃ t : ByteArray, t = ⟨(writeL na nd G).toArray⟩ := ⟨_, rfl⟩
              have HG := hide (And.intro hG (And.intro hml ht))
              have cw : mayB na nd m = true → Calls Try.prog 14 #[.agg #[.int .i64 na, .int .i64 nd, .slice A m c]] wr fun e w' => e = .returned (.tuple #[.string t, .int .i64 0]) ∧ Kept wr w' := fun hm => by
                have := rwrite_good na nd A m c G wr hm hmc hml.symm hrow
                simp only [Int.toNat_natCast] at this
                rw [← ht] at this
                exact this
              have cb : mayB na nd m = false → Calls Try.prog 14 #[.agg #[.int .i64 na, .int .i64 nd, .slice A m c]] wr fun e w' => e = .returned (.tuple #[.string ⟨#[]⟩, .int .i64 290]) ∧ Kept wr w' := fun hm =>
                rwrite_bad na nd A m c wr (by omega) (by omega) (by omega) (by omega) (by omega) hm
              have CW := hide cw
              have CB := hide cb
              have HO := hide hown
              clear cw cb hG hml ht hall hje hrow hown
              cases hm : mayB na nd m with
              | false =>
                go_wp2_with (go_at_call 14; refine (CB.out hm).mono ?_; rintro e w3 ⟨rfl, hk3⟩; have b3 := BOX2.out w3 (hbw.trans (hk3.mono (by omega))); have t0 := b3.r0; have t1 := b3.r1; have t2 := b3.r2; have g0 := b3.f0; have g1 := b3.f1; have g2 := b3.f2; have hl3 := b3.lt; have hq3 := hide b3.kept; clear b3)
                exact bodyPost_ret (v := .tuple #[.agg #[.int .i64 0, .int .i64 0, .slice none 0 0], .int .i64 292]) (by simp [results, Try.results16, go_sem, t0, t1, t2]) rfl (by
                  rw [readS_may (by rw [← HN.out.1, ← HN.out.2, ← HG.out.1, ← HG.out.2.1]; exact hm)]
                  exact ⟨rfl, rerr_kept0 hq3.out⟩)
              | true =>
                cases hts : (t.toList == s.toList) with
                | false =>
                  go_wp2_with (go_at_call 14; refine (CW.out hm).mono ?_; rintro e w3 ⟨rfl, hk3⟩; have b3 := BOX2.out w3 (hbw.trans (hk3.mono (by omega))); have t0 := b3.r0; have t1 := b3.r1; have t2 := b3.r2; have g0 := b3.f0; have g1 := b3.f1; have g2 := b3.f2; have hl3 := b3.lt; have hq3 := hide b3.kept; clear b3)
                  exact bodyPost_ret (v := .tuple #[.agg #[.int .i64 0, .int .i64 0, .slice none 0 0], .int .i64 292]) (by simp [results, Try.results16, go_sem, t0, t1, t2]) rfl (by
                    rw [readS_other (by
                      rw [← HN.out.1, ← HN.out.2, ← HG.out.1]
                      intro he
                      rw [beq_eq_false_iff_ne] at hts
                      apply hts
                      rw [Lib.toList_data, Lib.toList_data, HG.out.2.2, ← he])]
                    exact ⟨rfl, rerr_kept0 hq3.out⟩)
                | true =>
                  have x0 := fun W (hk : Kept wr W) => ((hk.cells w2.heap.size 0 hwz).trans p0)
                  have x1 := fun W (hk : Kept wr W) => ((hk.cells w2.heap.size 1 hwz).trans p1)
                  have x2 := fun W (hk : Kept wr W) => ((hk.cells w2.heap.size 2 hwz).trans p2)
                  have X0 := hide x0
                  have X1 := hide x1
                  have X2 := hide x2
                  clear x0 x1 x2
                  go_wp2_with (go_at_call 14; refine (CW.out hm).mono ?_; rintro e w3 ⟨rfl, hk3⟩; have y0 := X0.out w3 hk3; have y1 := X1.out w3 hk3; have y2 := X2.out w3 hk3; have hq4 := hide hk3; have b3 := BOX2.out w3 (hbw.trans (hk3.mono (by omega))); have t0 := b3.r0; have t1 := b3.r1; have t2 := b3.r2; have g0 := b3.f0; have g1 := b3.f1; have g2 := b3.f2; have hl3 := b3.lt; have hq3 := hide b3.kept; clear b3)
                  exact bodyPost_ret (v := .tuple #[.agg #[.int .i64 na, .int .i64 nd, .slice A m c], .int .i64 0]) (by simp [results, Try.results16, go_sem, t0, t1, t2]) rfl (by
                    have hw9 : writeL na nd G = s.data.toList := by
                      rw [beq_iff_eq, Lib.toList_data, Lib.toList_data, HG.out.2.2] at hts
                      exact hts
                    rw [readS_yes HP.out (by have := hev.out; simpa using this) (by rw [← HN.out.1, ← HN.out.2, ← HG.out.1, ← HG.out.2.1]; exact hm) (by rw [← HN.out.1, ← HN.out.2, ← HG.out.1]; exact hw9), ← HN.out.1, ← HN.out.2, ← HG.out.1]
                    refine ⟨.slice A m c, rfl, ?_, rerr_kept0 hq3.out⟩
                    have h9 := (HO.out.kept hq4.out).less (base' := w.heap.size) (by omega)
                    rw [← HG.out.2.1]
                    have hne : ∀ k, (Value.slice A m c).ownBlock = some k → k ≠ w.heap.size := fun k hk => by have := (HO.out.lt k hk).1; omega
                    exact ((h9.far (p := ⟨w.heap.size, 0, none⟩) hne _).far (p := ⟨w.heap.size, 1, none⟩) hne _).far (p := ⟨w.heap.size, 2, none⟩) hne _)
            | succ gh =>
              have hlt0 : 12 + 2 * j + 1 < s.size := by have := hev.out; omega
              have hlt1 : (12 + 2 * (j : Int)) < (s.size : Int) := by omega
              have hlt2 : (12 + 2 * (j : Int) + 1) < (s.size : Int) := by omega
              obtain ⟨y, hy⟩ : ∃ y, s[12 + 2 * j]'(by omega) = y := ⟨_, rfl⟩
              obtain ⟨x, hx⟩ : ∃ x, s[12 + 2 * j + 1]'(by omega) = x := ⟨_, rfl⟩
              have hyL : s.data.toList[12 + 2 * j]? = some y := by rw [← hy]; exact get_data s _ (by omega)
              have hxL : s.data.toList[12 + 2 * j + 1]? = some x := by rw [← hx]; exact get_data s _ (by omega)
              have HL := hide (And.intro hyL hxL)
              clear hyL hxL
              have hyb := y.toNat_lt
              have hxb := x.toNat_lt
              have kn : (12 + 2 * (j : Int)).toNat = 12 + 2 * j := by omega
              have k9 : (0 : Int) ≤ 12 + 2 * (j : Int) := by omega
              go_upto_region 16 with fail
              go_cut [96] (fun s96 wx => ∃ nq : Nat, s96 = .bool (decide ((na : Int) * nd < m + y.toNat)) ∧ wr.drewN nq = wx)
              case first =>
                have k5 : IntKind.i64.wrap ((m : Int) + (y.toNat : Int)) = (m : Int) + (y.toNat : Int) := IntWalk.i64_in _ (by omega)
                have k6 : IntKind.i64.wrap ((na : Int) * (nd : Int)) = (na : Int) * (nd : Int) := IntWalk.i64_in _ (by omega)
                go_quiet (fail)
                go_wp2_with fail
                go_meet
                exact ⟨nq, rfl, rfl⟩
              case rest =>
                obtain ⟨nq, rfl, rfl⟩ := hcut
                cases hov : decide ((na : Int) * nd < m + y.toNat) with
                | true =>
                  have hov' := hide (of_decide_eq_true hov)
                  have HM := hide hown.1
                  go_wp2
                  exact bodyPost_ret (v := .tuple #[.agg #[.int .i64 0, .int .i64 0, .slice none 0 0], .int .i64 292]) (by simp [results, Try.results16, go_sem, r0, r1, r2]) rfl (by
                    have hm2 : m = (expand ((s.data.toList.drop 12).take (2 * j))).length := by have := HM.out; rw [bytesV_length] at this; omega
                    rw [readS_over (j := j) (by simpa using hlt0) HL.out.1 (by
                      rw [← HN.out.1, ← HN.out.2, ← hm2]
                      have h8 : ((na * nd : Nat) : Int) = na * nd := by simp
                      have := hov'.out
                      omega)]
                    exact ⟨rfl, by first | exact rerr_kept0 (drewN_below hkept nq) | exact drewN_below (rerr_kept0 hkept) nq⟩)
                | false =>
                  have hov' : (m : Int) + y.toNat ≤ na * nd := by have := of_decide_eq_false hov; omega
                  have hml : m = (expand ((s.data.toList.drop 12).take (2 * j))).length := by have := hown.1; rw [bytesV_length] at this; omega
                  obtain ⟨G, hG⟩ : ∃ G, G = expand ((s.data.toList.drop 12).take (2 * j)) := ⟨_, rfl⟩
                  rw [← hG] at hown hml
                  have HG := hide (And.intro hG hml)
                  clear hG hml hov r0 r1 r2 g0 g1 g2 hlt hkept
                  go_wp2
                  go_loopg [8] y.toNat (fun g3 ii wx => ∃ (q : Nat) (A2 : Option Addr) (c2 : Nat), q + g3 = y.toNat ∧ ii = .int .i64 q ∧ wx.cell? ⟨w2.heap.size, 0, none⟩ = some (.int .i64 na) ∧ wx.cell? ⟨w2.heap.size, 1, none⟩ = some (.int .i64 nd) ∧
                    wx.cell? ⟨w2.heap.size, 2, none⟩ = some (.slice A2 (m + q) c2) ∧ wx.frozen? ⟨w2.heap.size, 2, none⟩ = false ∧ Own wx (w2.heap.size + 1) 1 (.slice A2 (m + q) c2) (m + q) (bytesV (G ++ List.replicate q x)) ∧ w2.heap.size < wx.heap.size ∧ Below w2.heap.size w2 wx)
                  case atStart => exact ⟨0, A, c, by omega, rfl, p0, p1, p2, pf, by simpa using hown.drewN nq, hwz, drewN_below hbw nq⟩
                  case round =>
                    clear hown p0 p1 p2 pf hwz hbw
                    obtain ⟨q, A2, c2, hqg, rfl, p0, p1, p2, pf, hown, hwz, hbw⟩ := hrel
                    cases gk with
                    | zero =>
                      have hqe : q = y.toNat := by omega
                      have HREL : Hid (12 + 2 * (j + 1) ≤ s.size ∧ bytesV (G ++ List.replicate q x) = bytesV (expand ((s.data.toList.drop 12).take (2 * (j + 1))))) := by
                        refine ⟨by omega, ?_⟩
                        rw [expand_next j _ y x (by rw [List.length_drop]; simpa using (by omega : 2 * j + 1 < s.size - 12)) (by rw [List.getElem?_drop]; exact HL.out.1) (by rw [List.getElem?_drop]; exact HL.out.2), ← HG.out.1, hqe]
                      have hge : ¬ ((q : Int) < y.toNat) := by omega
                      clear hqe
                      go_wp2
                      go_roundg (gh - 1)
                      case measure => omega
                      case rel => exact ⟨j + 1, m + q, A2, c2, HREL.out.1, by omega, by go_num, p0, p1, p2, pf, by rw [← HREL.out.2]; exact hown, by omega, hwz, hbw⟩
                    | succ g3 =>
                      have hlt3 : (q : Int) < y.toNat := by omega
                      have n2 := World.new_ne wr _ p2
                      have hg0 : (0 : Int) ≤ 12 + 2 * (j : Int) + 1 := by omega
                      have k1 : IntKind.i64.wrap (12 + 2 * (j : Int) + 1) = 12 + 2 * (j : Int) + 1 := IntWalk.i64_in _ (by omega)
                      have k2 : (12 + 2 * (j : Int) + 1).toNat = 12 + 2 * j + 1 := by omega
                      have hnew : Row (wr.drew.alloc (.cells #[.int .u8 (x.toNat : Int)] 5)) (some ⟨wr.heap.size, 0, none⟩) (bytesV [x]) := Row.new_at _ _ _ _ _ _ rfl rfl
                      have hbo : w2.heap.size + 1 ≤ wr.heap.size + 1 := by omega
                      go_wp2_with fail
                      refine wp_region_L (fun w' => w'.cell? ⟨w2.heap.size, 2, none⟩ = some (.slice A2 (m + q) c2)) 9 (by kernel_rfl) ?_ (fun hHeld => ?_)
                      · go_keep
                      refine wpAnyL_take (i := 0) (v := ?_) (some 106) rfl rfl (by kernel_rfl) (by kernel_rfl) (by kernel_rfl) (by kernel_rfl) (fun _ _ _ h => h) (Or.inl ⟨by rfl, ?_⟩) (by assumption) ?_
                      rotate_left
                      · intro w hSw; (try dsimp only at hSw); go_simp; (try with_reducible rfl)
                      try simp only [Act.put, List.setIfInBounds_toArray, List.set_cons_zero, List.set_cons_succ]
                      refine wpAnyL_take (i := 1) (v := ?_) (some 107) rfl rfl (by kernel_rfl) (by kernel_rfl) (by kernel_rfl) (by kernel_rfl) (fun _ _ _ h => h) (Or.inl ⟨by rfl, ?_⟩) (by assumption) ?_
                      rotate_left
                      · intro w hSw; (try dsimp only at hSw); go_simp; (try with_reducible rfl)
                      try simp only [Act.put, List.setIfInBounds_toArray, List.set_cons_zero, List.set_cons_succ]
                      refine wpAnyL_take (i := 2) (v := ?_) (some 108) rfl rfl (by kernel_rfl) (by kernel_rfl) (by kernel_rfl) (by kernel_rfl) (fun _ _ _ h => h) (Or.inl ⟨by rfl, ?_⟩) (by assumption) ?_
                      rotate_left
                      · intro w hSw; (try dsimp only at hSw); go_simp; (try with_reducible rfl)
                      try simp only [Act.put, List.setIfInBounds_toArray, List.set_cons_zero, List.set_cons_succ]
                      refine wpAnyL_take (i := 3) (v := ?_) (some 109) rfl rfl (by kernel_rfl) (by kernel_rfl) (by kernel_rfl) (by kernel_rfl) (fun _ _ _ h => h) (Or.inl ⟨by rfl, ?_⟩) (by assumption) ?_
                      rotate_left
                      · intro w hSw; (try dsimp only at hSw); go_simp; (try with_reducible rfl)
                      try simp only [Act.put, List.setIfInBounds_toArray, List.set_cons_zero, List.set_cons_succ]
                      refine wpAnyL_take (i := 4) (v := ?_) (some 110) rfl rfl (by kernel_rfl) (by kernel_rfl) (by kernel_rfl) (by kernel_rfl) (fun _ _ _ h => h) (Or.inl ⟨by rfl, ?_⟩) (by assumption) ?_
                      rotate_left
                      · intro w hSw; (try dsimp only at hSw); go_simp; (try with_reducible rfl)
                      try simp only [Act.put, List.setIfInBounds_toArray, List.set_cons_zero, List.set_cons_succ]
                      refine wpAnyL_take (i := 5) (v := ?_) (some 111) rfl rfl (by kernel_rfl) (by kernel_rfl) (by kernel_rfl) (by kernel_rfl) (fun _ _ _ h => h) (Or.inl ⟨by rfl, ?_⟩) (by assumption) ?_
                      rotate_left
                      · intro w hSw; (try dsimp only at hSw); go_simp; (try with_reducible rfl)
                      try simp only [Act.put, List.setIfInBounds_toArray, List.set_cons_zero, List.set_cons_succ]
                      refine wpAnyL_one (i := 6) (by kernel_rfl) rfl (fun K hK => ?_)
                      go_simp
                      refine hK.out _ _ ?_ (fun hHeld => ?_)
                      · go_keep
                      clear hK K
                      try simp only [Act.put, List.setIfInBounds_toArray, List.set_cons_zero, List.set_cons_succ]
                      refine wpAnyL_one (i := 7) (by kernel_rfl) rfl (fun K hK => ?_)
                      (refine step_append_row _ rfl _ _ 22 rfl (w2.heap.size + 1) 5 i0 (.int .u8 0) 1 1 Try.underlying22 hi hi0 hi1 hi2 rfl (by decide) _ (m + q) _ rfl (hown.drew.alloc _) (some ⟨wr.heap.size, 0, none⟩) 1 1 (bytesV [x]) rfl rfl hnew (bytesV_one _) (by unfold maxLen; omega) (by omega) (by simp; omega) ?_; intro v3 w3 hown3 hg3 hat3; have hb3 : Below (w2.heap.size + 1) wr w3 := below_append ((Below.refl _ wr).drew.alloc (by simp; omega) _) (hown.drew.alloc _) (Nat.le_refl _) (by simp; omega) hg3; have e2 := (hb3.cell (p := ⟨w2.heap.size, 2, none⟩) (by simp)).trans p2; have ef := (hb3.frozen (p := ⟨w2.heap.size, 2, none⟩) (by simp)).trans pf; obtain ⟨A4, c4, rfl, hv1, hv2, -, hv4, -⟩ := hown3.form)
                      refine hK.out _ _ ?_ (fun hHeld => ?_)
                      · go_keep
                      clear hK K
                      try simp only [Act.put, List.setIfInBounds_toArray]
                      refine wpAnyL_one (i := 8) (by kernel_rfl) rfl (fun K hK => ?_)
                      go_simp
                      refine hK.out _ _ ?_ (fun hHeld => ?_)
                      · go_keep
                      clear hK K
                      try simp only [Act.put, List.setIfInBounds_toArray, List.set_cons_zero, List.set_cons_succ]
                      refine wpAnyL_end (by kernel_rfl) rfl (fun K hK => ?_)
                      go_simp
                      refine hK.out _ _ ?_
                      clear hK K
                      try simp only [Act.put, List.setIfInBounds_toArray, List.set_cons_zero, List.set_cons_succ]
                      refine wpAnyL_done (by kernel_rfl) ?_ _
                      have q0 := (hb3.cell (p := ⟨w2.heap.size, 0, none⟩) (by simp)).trans p0
                      have q1 := (hb3.cell (p := ⟨w2.heap.size, 1, none⟩) (by simp)).trans p1
                      have hmq : (((m + q : Nat) : Int)) + 1 = ((m + (q + 1) : Nat) : Int) := by omega
                      have HB3 := hide (And.intro hb3 (And.intro hown3 (And.intro q0 (And.intro q1 (And.intro e2 ef)))))
                      clear hb3 hown3 q0 q1 e2 ef hmq k1 k2 hHeld hg3 hat3 hown hnew p0 p1 p2 pf
                      go_wp2
                      go_roundg g3
                      case measure => omega
                      case rel =>
                        obtain ⟨hb3, hown3, q0, q1, e2, ef⟩ := HB3.out
                        have hw3 : w2.heap.size + 1 ≤ w3.heap.size := by have := hb3.size; omega
                        refine ⟨q + 1, A4, c4, by omega, by go_num, ?_, ?_, ?_, ?_, ?_, by simp [World.setCell]; omega, (hbw.trans (hb3.mono (by omega))).setCell (by simp) _⟩
                        · rw [World.cell?_setCell_other _ _ _ _ (by simp)]; exact q0
                        · rw [World.cell?_setCell_other _ _ _ _ (by simp)]; exact q1
                        · rw [World.cell?_setCell_same _ _ _ e2]; rfl
                        · rw [World.frozen?_setCell]; exact ef
                        · have h9 : Own w3 (w2.heap.size + 1) 1 (.slice A4 (m + (q + 1)) c4) (m + (q + 1)) (bytesV (G ++ List.replicate (q + 1) x)) := by
                            rw [List.replicate_succ', ← List.append_assoc, bytesV_append]
                            exact hown3
                          exact h9.far (fun k hk => by have := (h9.lt k hk).1; simp; omega) _
        · have hod : ((s.size : Int) % 2 != 0) = true := by simp; omega
          go_wp2
          exact bodyPost_ret (v := .tuple #[.agg #[.int .i64 0, .int .i64 0, .slice none 0 0], .int .i64 292]) (by simp [results, Try.results16, go_sem, r0, r1, r2, hwz']) rfl (by
            rw [readS_odd (by simpa using hodd)]
            exact ⟨rfl, rerr_kept hkept hlt _⟩)
    | succ gh =>
      have hlt : (4 + (j : Int)) < 12 := by omega
      obtain ⟨y, hy⟩ : ∃ y, s[4 + j]'(by omega) = y := ⟨_, rfl⟩
      have hyL : s.data.toList[4 + j]? = some y := by rw [← hy]; exact get_data s _ (by omega)
      have hyb := y.toNat_lt
      have kn : (4 + (j : Int)).toNat = 4 + j := by omega
      have kb : (4 + (j : Int)) < (s.size : Int) := by omega
      have k0 : (0 : Int) ≤ 4 + (j : Int) := by omega
      have k1 : IntKind.i64.wrap (4 + (j : Int) - 4) = j := (IntWalk.i64_in _ (by omega)).trans (by omega)
      have hwz' : w.heap.size < wr.heap.size := by omega
      by_cases hj : j < 4
      · have hv := num0_lt s.data.toList j hj
        have HV := hide (num_low hj hyL)
        obtain ⟨v0, hv0⟩ : ∃ v0, v0 = num0 s.data.toList j := ⟨_, rfl⟩
        obtain ⟨v1, hv1⟩ : ∃ v1, v1 = num1 s.data.toList j := ⟨_, rfl⟩
        rw [← hv0] at c0 hv HV
        rw [← hv1] at c1 HV
        have k2 : IntKind.i64.wrap ((j : Int) / 4) = 0 := (IntWalk.i64_in _ (by omega)).trans (by omega)
        have k3 : IntKind.i64.wrap (256 * (v0 : Int)) = 256 * (v0 : Int) := IntWalk.i64_in _ (by omega)
        have k4 : IntKind.i64.wrap (256 * (v0 : Int) + (y.toNat : Int)) = 256 * (v0 : Int) + (y.toNat : Int) := IntWalk.i64_in _ (by omega)
        have HB := hide hb
        clear hyL hv0 hv1 hb
        go_wp2_with fail
        refine wp_region_L (fun w' => w'.cell? ⟨w.heap.size + 1, 0, none⟩ = some (.int .i64 v0) ∧ w'.cell? ⟨w.heap.size + 1, 1, none⟩ = some (.int .i64 v1)) 15 (by kernel_rfl) ?_ (fun hHeld => ?_)
        · first | (go_keep) | assumption
        refine wpAnyL_take (i := 0) (v := ?_) (some 25) rfl rfl (by kernel_rfl) (by kernel_rfl) (by kernel_rfl) (by kernel_rfl) (fun _ _ _ h => h) (Or.inl ⟨by rfl, ?_⟩) (by assumption) ?_
        rotate_left
        · intro w hSw; (try dsimp only at hSw); go_simp; (try with_reducible rfl)
        try simp only [Act.put, List.setIfInBounds_toArray, List.set_cons_zero, List.set_cons_succ]
        refine wpAnyL_take (i := 1) (v := ?_) (some 26) rfl rfl (by kernel_rfl) (by kernel_rfl) (by kernel_rfl) (by kernel_rfl) (fun _ _ _ h => h) (Or.inl ⟨by rfl, ?_⟩) (by assumption) ?_
        rotate_left
        · intro w hSw; (try dsimp only at hSw); go_simp; (try with_reducible rfl)
        try simp only [Act.put, List.setIfInBounds_toArray, List.set_cons_zero, List.set_cons_succ]
        refine wpAnyL_take (i := 2) (v := ?_) (some 27) rfl rfl (by kernel_rfl) (by kernel_rfl) (by kernel_rfl) (by kernel_rfl) (fun _ _ _ h => h) (Or.inl ⟨by rfl, ?_⟩) (by assumption) ?_
        rotate_left
        · intro w hSw; (try dsimp only at hSw); go_simp; (try with_reducible rfl)
        try simp only [Act.put, List.setIfInBounds_toArray, List.set_cons_zero, List.set_cons_succ]
        refine wpAnyL_take (i := 3) (v := ?_) (some 28) rfl rfl (by kernel_rfl) (by kernel_rfl) (by kernel_rfl) (by kernel_rfl) (fun _ _ _ h => h) (Or.inl ⟨by rfl, ?_⟩) (by assumption) ?_
        rotate_left
        · intro w hSw; (try dsimp only at hSw); go_simp; (try with_reducible rfl)
        try simp only [Act.put, List.setIfInBounds_toArray, List.set_cons_zero, List.set_cons_succ]
        refine wpAnyL_take (i := 4) (v := ?_) (some 29) rfl rfl (by kernel_rfl) (by kernel_rfl) (by kernel_rfl) (by kernel_rfl) (fun _ _ _ h => h) (Or.inl ⟨by rfl, ?_⟩) (by assumption) ?_
        rotate_left
        · intro w hSw; (try dsimp only at hSw); go_simp; (try with_reducible rfl)
        try simp only [Act.put, List.setIfInBounds_toArray, List.set_cons_zero, List.set_cons_succ]
        refine wpAnyL_take (i := 5) (v := ?_) (some 30) rfl rfl (by kernel_rfl) (by kernel_rfl) (by kernel_rfl) (by kernel_rfl) (fun _ _ _ h => h) (Or.inl ⟨by rfl, ?_⟩) (by assumption) ?_
        rotate_left
        · intro w hSw; (try dsimp only at hSw); go_simp; (try with_reducible rfl)
        try simp only [Act.put, List.setIfInBounds_toArray, List.set_cons_zero, List.set_cons_succ]
        refine wpAnyL_take (i := 6) (v := ?_) (some 31) rfl rfl (by kernel_rfl) (by kernel_rfl) (by kernel_rfl) (by kernel_rfl) (fun _ _ _ h => h) (Or.inl ⟨by rfl, ?_⟩) (by assumption) ?_
        rotate_left
        · intro w hSw; (try dsimp only at hSw); go_simp; (try with_reducible rfl)
        try simp only [Act.put, List.setIfInBounds_toArray, List.set_cons_zero, List.set_cons_succ]
        refine wpAnyL_take (i := 7) (v := ?_) (some 32) rfl rfl (by kernel_rfl) (by kernel_rfl) (by kernel_rfl) (by kernel_rfl) (fun _ _ _ h => h) (Or.inl ⟨by rfl, ?_⟩) (by assumption) ?_
        rotate_left
        · intro w hSw; (try dsimp only at hSw); go_simp; (try with_reducible rfl)
        try simp only [Act.put, List.setIfInBounds_toArray, List.set_cons_zero, List.set_cons_succ]
        refine wpAnyL_take (i := 8) (v := ?_) (some 33) rfl rfl (by kernel_rfl) (by kernel_rfl) (by kernel_rfl) (by kernel_rfl) (fun _ _ _ h => h) (Or.inl ⟨by rfl, ?_⟩) (by assumption) ?_
        rotate_left
        · intro w hSw; (try dsimp only at hSw); go_simp; (try with_reducible rfl)
        try simp only [Act.put, List.setIfInBounds_toArray, List.set_cons_zero, List.set_cons_succ]
        refine wpAnyL_take (i := 9) (v := ?_) (some 34) rfl rfl (by kernel_rfl) (by kernel_rfl) (by kernel_rfl) (by kernel_rfl) (fun _ _ _ h => h) (Or.inl ⟨by rfl, ?_⟩) (by assumption) ?_
        rotate_left
        · intro w hSw; (try dsimp only at hSw); go_simp; (try with_reducible rfl)
        try simp only [Act.put, List.setIfInBounds_toArray, List.set_cons_zero, List.set_cons_succ]
        refine wpAnyL_take (i := 10) (v := ?_) (some 35) rfl rfl (by kernel_rfl) (by kernel_rfl) (by kernel_rfl) (by kernel_rfl) (fun _ _ _ h => h) (Or.inl ⟨by rfl, ?_⟩) (by assumption) ?_
        rotate_left
        · intro w hSw; (try dsimp only at hSw); go_simp; (try with_reducible rfl)
        try simp only [Act.put, List.setIfInBounds_toArray, List.set_cons_zero, List.set_cons_succ]
        refine wpAnyL_take (i := 11) (v := ?_) (some 36) rfl rfl (by kernel_rfl) (by kernel_rfl) (by kernel_rfl) (by kernel_rfl) (fun _ _ _ h => h) (Or.inl ⟨by rfl, ?_⟩) (by assumption) ?_
        rotate_left
        · intro w hSw; (try dsimp only at hSw); go_simp; (try with_reducible rfl)
        try simp only [Act.put, List.setIfInBounds_toArray, List.set_cons_zero, List.set_cons_succ]
        refine wpAnyL_take (i := 12) (v := ?_) (some 37) rfl rfl (by kernel_rfl) (by kernel_rfl) (by kernel_rfl) (by kernel_rfl) (fun _ _ _ h => h) (Or.inl ⟨by rfl, ?_⟩) (by assumption) ?_
        rotate_left
        · intro w hSw; (try dsimp only at hSw); go_simp; (try with_reducible rfl)
        try simp only [Act.put, List.setIfInBounds_toArray, List.set_cons_zero, List.set_cons_succ]
        refine wpAnyL_take (i := 13) (v := ?_) (some 38) rfl rfl (by kernel_rfl) (by kernel_rfl) (by kernel_rfl) (by kernel_rfl) (fun _ _ _ h => h) (Or.inl ⟨by rfl, ?_⟩) (by assumption) ?_
        rotate_left
        · intro w hSw; (try dsimp only at hSw); go_simp; (try with_reducible rfl)
        try simp only [Act.put, List.setIfInBounds_toArray, List.set_cons_zero, List.set_cons_succ]
        refine wpAnyL_take (i := 14) (v := ?_) (some 39) rfl rfl (by kernel_rfl) (by kernel_rfl) (by kernel_rfl) (by kernel_rfl) (fun _ _ _ h => h) (Or.inl ⟨by rfl, ?_⟩) (by assumption) ?_
        rotate_left
        · intro w hSw; (try dsimp only at hSw); go_simp; (try with_reducible rfl)
        try simp only [Act.put, List.setIfInBounds_toArray, List.set_cons_zero, List.set_cons_succ]
        refine wpAnyL_end (by kernel_rfl) rfl (fun K hK => ?_)
        go_simp
        refine hK.out _ _ ?_
        clear hK K
        try simp only [Act.put, List.setIfInBounds_toArray, List.set_cons_zero, List.set_cons_succ]
        refine wpAnyL_done (by kernel_rfl) ?_ _
        clear k1 k2 k3 k4 hHeld
        go_wp2
        go_roundg gh
        case measure => omega
        case rel =>
          obtain ⟨e0, e1⟩ := HV.out
          refine ⟨j + 1, by omega, by go_num, (World.cell?_setCell_same _ _ _ c0).trans ?_, (World.cell?_setCell_other _ _ _ _ (by simp)).trans ?_, by simpa using f0, by simpa using f1, by simpa [World.setCell] using hwz, HB.out.below ((Below.refl (w.heap.size + 1) wr).setCell (by simp) _).drew (by omega)⟩
          · rw [e0]; congr 2; omega
          · rw [e1]; exact c1
      · have hv := num1_lt s.data.toList j (by omega)
        have HV := hide (num_high (by omega) hyL)
        obtain ⟨v0, hv0⟩ : ∃ v0, v0 = num0 s.data.toList j := ⟨_, rfl⟩
        obtain ⟨v1, hv1⟩ : ∃ v1, v1 = num1 s.data.toList j := ⟨_, rfl⟩
        rw [← hv0] at c0 HV
        rw [← hv1] at c1 hv HV
        have k2 : IntKind.i64.wrap ((j : Int) / 4) = 1 := (IntWalk.i64_in _ (by omega)).trans (by omega)
        have k3 : IntKind.i64.wrap (256 * (v1 : Int)) = 256 * (v1 : Int) := IntWalk.i64_in _ (by omega)
        have k4 : IntKind.i64.wrap (256 * (v1 : Int) + (y.toNat : Int)) = 256 * (v1 : Int) + (y.toNat : Int) := IntWalk.i64_in _ (by omega)
        have HB := hide hb
        clear hyL hv0 hv1 hb
        go_wp2_with fail
        refine wp_region_L (fun w' => w'.cell? ⟨w.heap.size + 1, 0, none⟩ = some (.int .i64 v0) ∧ w'.cell? ⟨w.heap.size + 1, 1, none⟩ = some (.int .i64 v1)) 15 (by kernel_rfl) ?_ (fun hHeld => ?_)
        · first | (go_keep) | assumption
        refine wpAnyL_take (i := 0) (v := ?_) (some 25) rfl rfl (by kernel_rfl) (by kernel_rfl) (by kernel_rfl) (by kernel_rfl) (fun _ _ _ h => h) (Or.inl ⟨by rfl, ?_⟩) (by assumption) ?_
        rotate_left
        · intro w hSw; (try dsimp only at hSw); go_simp; (try with_reducible rfl)
        try simp only [Act.put, List.setIfInBounds_toArray, List.set_cons_zero, List.set_cons_succ]
        refine wpAnyL_take (i := 1) (v := ?_) (some 26) rfl rfl (by kernel_rfl) (by kernel_rfl) (by kernel_rfl) (by kernel_rfl) (fun _ _ _ h => h) (Or.inl ⟨by rfl, ?_⟩) (by assumption) ?_
        rotate_left
        · intro w hSw; (try dsimp only at hSw); go_simp; (try with_reducible rfl)
        try simp only [Act.put, List.setIfInBounds_toArray, List.set_cons_zero, List.set_cons_succ]
        refine wpAnyL_take (i := 2) (v := ?_) (some 27) rfl rfl (by kernel_rfl) (by kernel_rfl) (by kernel_rfl) (by kernel_rfl) (fun _ _ _ h => h) (Or.inl ⟨by rfl, ?_⟩) (by assumption) ?_
        rotate_left
        · intro w hSw; (try dsimp only at hSw); go_simp; (try with_reducible rfl)
        try simp only [Act.put, List.setIfInBounds_toArray, List.set_cons_zero, List.set_cons_succ]
        refine wpAnyL_take (i := 3) (v := ?_) (some 28) rfl rfl (by kernel_rfl) (by kernel_rfl) (by kernel_rfl) (by kernel_rfl) (fun _ _ _ h => h) (Or.inl ⟨by rfl, ?_⟩) (by assumption) ?_
        rotate_left
        · intro w hSw; (try dsimp only at hSw); go_simp; (try with_reducible rfl)
        try simp only [Act.put, List.setIfInBounds_toArray, List.set_cons_zero, List.set_cons_succ]
        refine wpAnyL_take (i := 4) (v := ?_) (some 29) rfl rfl (by kernel_rfl) (by kernel_rfl) (by kernel_rfl) (by kernel_rfl) (fun _ _ _ h => h) (Or.inl ⟨by rfl, ?_⟩) (by assumption) ?_
        rotate_left
        · intro w hSw; (try dsimp only at hSw); go_simp; (try with_reducible rfl)
        try simp only [Act.put, List.setIfInBounds_toArray, List.set_cons_zero, List.set_cons_succ]
        refine wpAnyL_take (i := 5) (v := ?_) (some 30) rfl rfl (by kernel_rfl) (by kernel_rfl) (by kernel_rfl) (by kernel_rfl) (fun _ _ _ h => h) (Or.inl ⟨by rfl, ?_⟩) (by assumption) ?_
        rotate_left
        · intro w hSw; (try dsimp only at hSw); go_simp; (try with_reducible rfl)
        try simp only [Act.put, List.setIfInBounds_toArray, List.set_cons_zero, List.set_cons_succ]
        refine wpAnyL_take (i := 6) (v := ?_) (some 31) rfl rfl (by kernel_rfl) (by kernel_rfl) (by kernel_rfl) (by kernel_rfl) (fun _ _ _ h => h) (Or.inl ⟨by rfl, ?_⟩) (by assumption) ?_
        rotate_left
        · intro w hSw; (try dsimp only at hSw); go_simp; (try with_reducible rfl)
        try simp only [Act.put, List.setIfInBounds_toArray, List.set_cons_zero, List.set_cons_succ]
        refine wpAnyL_take (i := 7) (v := ?_) (some 32) rfl rfl (by kernel_rfl) (by kernel_rfl) (by kernel_rfl) (by kernel_rfl) (fun _ _ _ h => h) (Or.inl ⟨by rfl, ?_⟩) (by assumption) ?_
        rotate_left
        · intro w hSw; (try dsimp only at hSw); go_simp; (try with_reducible rfl)
        try simp only [Act.put, List.setIfInBounds_toArray, List.set_cons_zero, List.set_cons_succ]
        refine wpAnyL_take (i := 8) (v := ?_) (some 33) rfl rfl (by kernel_rfl) (by kernel_rfl) (by kernel_rfl) (by kernel_rfl) (fun _ _ _ h => h) (Or.inl ⟨by rfl, ?_⟩) (by assumption) ?_
        rotate_left
        · intro w hSw; (try dsimp only at hSw); go_simp; (try with_reducible rfl)
        try simp only [Act.put, List.setIfInBounds_toArray, List.set_cons_zero, List.set_cons_succ]
        refine wpAnyL_take (i := 9) (v := ?_) (some 34) rfl rfl (by kernel_rfl) (by kernel_rfl) (by kernel_rfl) (by kernel_rfl) (fun _ _ _ h => h) (Or.inl ⟨by rfl, ?_⟩) (by assumption) ?_
        rotate_left
        · intro w hSw; (try dsimp only at hSw); go_simp; (try with_reducible rfl)
        try simp only [Act.put, List.setIfInBounds_toArray, List.set_cons_zero, List.set_cons_succ]
        refine wpAnyL_take (i := 10) (v := ?_) (some 35) rfl rfl (by kernel_rfl) (by kernel_rfl) (by kernel_rfl) (by kernel_rfl) (fun _ _ _ h => h) (Or.inl ⟨by rfl, ?_⟩) (by assumption) ?_
        rotate_left
        · intro w hSw; (try dsimp only at hSw); go_simp; (try with_reducible rfl)
        try simp only [Act.put, List.setIfInBounds_toArray, List.set_cons_zero, List.set_cons_succ]
        refine wpAnyL_take (i := 11) (v := ?_) (some 36) rfl rfl (by kernel_rfl) (by kernel_rfl) (by kernel_rfl) (by kernel_rfl) (fun _ _ _ h => h) (Or.inl ⟨by rfl, ?_⟩) (by assumption) ?_
        rotate_left
        · intro w hSw; (try dsimp only at hSw); go_simp; (try with_reducible rfl)
        try simp only [Act.put, List.setIfInBounds_toArray, List.set_cons_zero, List.set_cons_succ]
        refine wpAnyL_take (i := 12) (v := ?_) (some 37) rfl rfl (by kernel_rfl) (by kernel_rfl) (by kernel_rfl) (by kernel_rfl) (fun _ _ _ h => h) (Or.inl ⟨by rfl, ?_⟩) (by assumption) ?_
        rotate_left
        · intro w hSw; (try dsimp only at hSw); go_simp; (try with_reducible rfl)
        try simp only [Act.put, List.setIfInBounds_toArray, List.set_cons_zero, List.set_cons_succ]
        refine wpAnyL_take (i := 13) (v := ?_) (some 38) rfl rfl (by kernel_rfl) (by kernel_rfl) (by kernel_rfl) (by kernel_rfl) (fun _ _ _ h => h) (Or.inl ⟨by rfl, ?_⟩) (by assumption) ?_
        rotate_left
        · intro w hSw; (try dsimp only at hSw); go_simp; (try with_reducible rfl)
        try simp only [Act.put, List.setIfInBounds_toArray, List.set_cons_zero, List.set_cons_succ]
        refine wpAnyL_take (i := 14) (v := ?_) (some 39) rfl rfl (by kernel_rfl) (by kernel_rfl) (by kernel_rfl) (by kernel_rfl) (fun _ _ _ h => h) (Or.inl ⟨by rfl, ?_⟩) (by assumption) ?_
        rotate_left
        · intro w hSw; (try dsimp only at hSw); go_simp; (try with_reducible rfl)
        try simp only [Act.put, List.setIfInBounds_toArray, List.set_cons_zero, List.set_cons_succ]
        refine wpAnyL_end (by kernel_rfl) rfl (fun K hK => ?_)
        go_simp
        refine hK.out _ _ ?_
        clear hK K
        try simp only [Act.put, List.setIfInBounds_toArray, List.set_cons_zero, List.set_cons_succ]
        refine wpAnyL_done (by kernel_rfl) ?_ _
        clear k1 k2 k3 k4 hHeld
        go_wp2
        go_roundg gh
        case measure => omega
        case rel =>
          obtain ⟨e0, e1⟩ := HV.out
          refine ⟨j + 1, by omega, by go_num, (World.cell?_setCell_other _ _ _ _ (by simp)).trans ?_, (World.cell?_setCell_same _ _ _ c1).trans ?_, by simpa using f0, by simpa using f1, by simpa [World.setCell] using hwz, HB.out.below ((Below.refl (w.heap.size + 1) wr).setCell (by simp) _).drew (by omega)⟩
          · rw [e0]; exact c0
          · rw [e1]; congr 2; omega

theorem rread_any (s : ByteArray) (w : World) (hsm : s.size ≤ maxLen) : Calls Try.prog 16 #[.string s] w (ReadPost w (readS s.data.toList)) := by
  by_cases hs : s.size < 12
  · exact rread_short s w hs
  · cases hp : headOk s.data.toList with
    | false => exact rread_head s w (by omega) hp
    | true => exact rread_body s w (by omega) hsm hp
end Go.Proofs.Ytbhgcbgaadnfpaa
