/- picture.At, walked. -/
import Derived.Test.YtbhgcbgaadnfpaaCropW
namespace Go.Proofs.Ytbhgcbgaadnfpaa
open Go.RowKit

def inB (a d c r : Int) : Bool := !(decide (c < 0) || (decide (r < 0) || (decide (a ≤ c) || decide (d ≤ r))))
def atE (p : PicD) (c r : Int) : Int := if p.may then (if inB p.a p.d c r then 0 else 2) else 290
def atG (p : PicD) (c r : Int) : Int := if p.may && inB p.a p.d c r then ((p.g[(r * p.a + c).toNat]?.getD 0).toNat : Int) else 0

theorem byte_at0 {W : World} {A : Option Addr} {g : List UInt8} (h : Row W A (bytesV g)) {k : Nat} {x : UInt8} (hx : g[k]? = some x) : ∃ b off, A = some ⟨b, off, none⟩ ∧ W.cell? ⟨b, off + k, none⟩ = some (.int .u8 (x.toNat : Int)) := by
  rcases h with h | ⟨b, off, hA, hc⟩
  · have : g = [] := by simpa [bytesV] using h
    subst this; simp at hx
  · exact ⟨b, off, hA, hc k _ (by simp [bytesV, hx])⟩
set_option maxRecDepth 100000 in
set_option maxHeartbeats 1600000 in
theorem at_any (p : PicD) (A : Option Addr) (n cc : Nat) (c r : Int) (w : World) (hp : PicAt w p A n cc) :
    Calls Try.prog 26 #[.agg #[.int .i64 p.a, .int .i64 p.d, .slice A n cc], .int .i64 c, .int .i64 r] w fun e w' => e = .returned (.tuple #[.int .u8 (atG p c r), .int .i64 (atE p c r)]) ∧ Kept w w' := by
  have hl := hp.len
  have CK := hide (fun (W : World) => check_any p.a p.d A n cc W hp.a0 hp.a1 hp.d0 hp.d1 hp.max)
  have B0 : Hid (∀ W, Kept (w.alloc (.cells #[.int .i64 p.a, .int .i64 p.d, .slice A n cc] 24)) W → Box W w.heap.size (.int .i64 p.a) (.int .i64 p.d) (.slice A n cc)) := fun W hW => (Box.new w _ _ _ _ _ rfl).kept hW
  cases hm : mayB p.a p.d n with
  | false =>
    rw [show checkI p.a p.d n = 290 by simp [checkI, hm]] at CK
    have HP : Hid (atG p c r = 0 ∧ atE p c r = 290) := ⟨by simp [atG, PicD.may, hl, hm], by simp [atE, PicD.may, hl, hm]⟩
    clear hm hp hl
    go_enter Try.func26, Try.ntmps26
    go_wp2_with (go_at_call 20; refine (CK.out _).mono ?_; rintro e w1 ⟨rfl, hk1⟩)
    go_ret2
    exact ⟨by rw [HP.out.1, HP.out.2]; rfl, ((Below.refl _ w).alloc (Nat.le_refl _) _).trans (hk1.mono (by simp))⟩
  | true =>
    rw [show checkI p.a p.d n = 0 by simp [checkI, hm]] at CK
    obtain ⟨v1, v2, v3, v4, v5, v6, v7⟩ := mayB_bounds hm
    by_cases hb : c < 0 ∨ r < 0 ∨ p.a ≤ c ∨ p.d ≤ r
    · have hin : inB p.a p.d c r = false := by
        simp only [inB, Bool.not_eq_false', Bool.or_eq_true, decide_eq_true_eq]; exact hb
      have HP : Hid (atG p c r = 0 ∧ atE p c r = 2) := ⟨by simp [atG, hin], by simp [atE, PicD.may, hl, hm, hin]⟩
      have HB := hide hb
      clear hm hp hl hb hin v5
      go_enter Try.func26, Try.ntmps26
      go_wp2_with (go_at_call 20; refine (CK.out _).mono ?_; rintro e w1 ⟨rfl, hk1⟩; obtain ⟨p0, p1, p2⟩ := B0.out _ hk1; have hz1 := lt_of_cell p0; have K1 := hide (((Below.refl _ w).alloc (Nat.le_refl _) (.cells #[.int .i64 p.a, .int .i64 p.d, .slice A n cc] 24)).trans (hk1.mono (by simp))); clear hk1)
      all_goals first
        | (exfalso; have := HB.out; omega)
        | (go_ret2; exact ⟨by rw [HP.out.1, HP.out.2]; rfl, K1.out⟩)
    · obtain ⟨n1, n2, n3, n4⟩ : ¬ c < 0 ∧ ¬ r < 0 ∧ ¬ p.a ≤ c ∧ ¬ p.d ≤ r := by omega
      obtain ⟨M, hM⟩ : ∃ M : Nat, (M : Int) = r * p.a := ⟨(r * p.a).toNat, Int.toNat_of_nonneg (Int.mul_nonneg (by omega) (by omega))⟩
      have hMn : (M : Int) + p.a ≤ n := by
        rw [hM, v5]
        have h1 : (r + 1) * p.a ≤ p.d * p.a := Int.mul_le_mul_of_nonneg_right (by omega) (by omega)
        rw [Int.add_mul, Int.mul_comm p.d] at h1
        omega
      obtain ⟨C, rfl⟩ := Int.eq_ofNat_of_zero_le (show 0 ≤ c by omega)
      obtain ⟨x, hx⟩ : ∃ x, p.g[M + C]? = some x := ⟨_, List.getElem?_eq_getElem (by omega)⟩
      have hin : inB p.a p.d C r = true := by simp [inB]; omega
      have HP : Hid (atG p C r = (x.toNat : Int) ∧ atE p C r = 0) := by
        refine ⟨?_, by simp [atE, PicD.may, hl, hm, hin]⟩
        rw [atG, show p.may = true by simp [PicD.may, hl, hm], hin]
        simp only [Bool.and_self, if_true]
        rw [← hM, show ((M : Int) + (C : Int)).toNat = M + C by omega, hx]; rfl
      obtain ⟨bb, off, hA, hcell⟩ := byte_at0 hp.row hx
      subst hA
      have e1 : IntKind.i64.wrap (r * p.a) = (M : Int) := by rw [← hM]; exact IntWalk.i64_in _ (by omega)
      have e2 : r * p.a = (M : Int) := hM.symm
      have hbl := lt_of_cell hcell
      clear hm hp hl hb hin v5 hx hM
      go_enter Try.func26, Try.ntmps26
      go_wp2_with (go_at_call 20; refine (CK.out _).mono ?_; rintro e w1 ⟨rfl, hk1⟩; obtain ⟨p0, p1, p2⟩ := B0.out _ hk1; have hz1 := lt_of_cell p0; have hc9 := ((hk1.cells bb (off + (M + C)) (by simp; omega)).trans ((World.cell?_alloc_lt w _ ⟨bb, off + (M + C), none⟩ hbl).trans hcell)); have K1 := hide (((Below.refl _ w).alloc (Nat.le_refl _) (.cells #[.int .i64 p.a, .int .i64 p.d, .slice (some ⟨bb, off, none⟩) n cc] 24)).trans (hk1.mono (by simp))); clear hk1)
      go_ret2
      exact ⟨by rw [HP.out.1, HP.out.2]; rfl, K1.out⟩
end Go.Proofs.Ytbhgcbgaadnfpaa
