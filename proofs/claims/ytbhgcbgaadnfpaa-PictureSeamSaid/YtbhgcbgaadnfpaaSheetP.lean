/- Sums of pieces, and a row of pictures of one height. No program in sight. -/
import Derived.Test.YtbhgcbgaadnfpaaPicV
namespace Go.Proofs.Ytbhgcbgaadnfpaa
open Go.RowKit

/-- Pieces of w, and what is left over. -/
theorem sum_min {l : List Int} {w A : Int} (hw : 1 ≤ w) (hA : 0 ≤ A) (h : ∀ (j : Nat) (x : Int), l[j]? = some x → x = min w (A - (j : Int) * w)) (hlt : ∀ j : Nat, j < l.length → (j : Int) * w ≤ A) : ∀ k : Nat, k ≤ l.length → sumI (l.take k) = min ((k : Int) * w) A
  | 0, _ => by simp [sumI]; omega
  | k + 1, hk => by
    have ih := sum_min hw hA h hlt k (by omega)
    obtain ⟨x, hx⟩ : ∃ x, l[k]? = some x := ⟨_, List.getElem?_eq_getElem (by omega)⟩
    have h1 := h k x hx
    have h2 := hlt k (by omega)
    have e : ((k + 1 : Nat) : Int) * w = (k : Int) * w + w := by rw [Int.natCast_add, Int.add_mul]; simp
    rw [List.take_add_one, hx, Option.toList_some, sumI_snoc, ih, e]
    omega
/-- So many pieces are just enough. -/
theorem pieces {w A : Int} (hw : 1 ≤ w) (_ : 1 ≤ A) : A ≤ (A + w - 1) / w * w ∧ ∀ j : Int, j < (A + w - 1) / w → j * w ≤ A := by
  have h1 := Int.emod_add_mul_ediv (A + w - 1) w
  have h2 := Int.emod_nonneg (A + w - 1) (show w ≠ 0 by omega)
  have h3 := Int.emod_lt_of_pos (A + w - 1) (show 0 < w by omega)
  rw [Int.mul_comm] at h1
  refine ⟨by omega, fun j hj => ?_⟩
  have h4 : (j + 1) * w ≤ (A + w - 1) / w * w := Int.mul_le_mul_of_nonneg_right (by omega) (by omega)
  rw [Int.add_mul] at h4
  omega
/-- A row of pictures of one height. -/
theorem beside_row {q : List PicD} {S H : Int} (hne : q ≠ []) (hm : ∀ p ∈ q, mayB p.a p.d p.g.length = true) (hS : sumA q = S) (hH : ∀ p ∈ q, p.d = H) :
    besideE q = (if sizeB S H then 0 else 4) ∧ (besideP q).a = S ∧ (besideP q).d = H ∧ (sizeB S H = true → (besideP q).may = true) := by
  cases q with
  | nil => exact absurd rfl hne
  | cons p r =>
    have hd := hH p (by simp)
    have hall : allE (p :: r) = 0 := by
      unfold allE
      have h9 : (p :: r).all PicD.may = true := List.all_eq_true.2 fun x hx => hm x hx
      rw [if_pos h9]
    refine ⟨?_, hS, hd, fun hs => ?_⟩
    · show (if allE (p :: r) = 0 then _ else _) = _
      rw [if_pos hall, if_pos (by rw [List.all_eq_true]; intro x hx; simp [hH x hx, hd]), hS, hd]
    · have hb := sizeB_bounds hs
      have h1 := besideG_length (p :: r) H.toNat (fun x hx => by
        have hx2 := mayB_bounds (hm x hx)
        have hx3 := hH x hx
        have e : (H.toNat : Int) = H := Int.toNat_of_nonneg (by omega)
        exact ⟨by omega, by rw [e, ← hx3]; exact hx2.2.2.2.2.1⟩) H.toNat (Nat.le_refl _)
      rw [Int.toNat_of_nonneg (by omega), hS] at h1
      show mayB (sumA (p :: r)) p.d (besideG (p :: r) p.d.toNat).length = true
      rw [hS, hd]
      unfold mayB
      rw [hs]
      simp
      rw [h1, Int.mul_comm]
end Go.Proofs.Ytbhgcbgaadnfpaa
