/- Where a cell lies: in just the rectangle that atN names. -/
import Derived.Test.YtneakieigiafpaaGreatDoorAtG
namespace Go.Proofs.YtneakieigiafpaaGreatDoor
open Go.RowKit

theorem ediv_is {x w m : Int} (hw : 1 ≤ w) : x / w = m ↔ m * w ≤ x ∧ x < m * w + w := by
  constructor
  · rintro rfl
    have h1 := Int.mul_ediv_self_le (x := x) (k := w) (by omega)
    have h2 := Int.lt_mul_ediv_self_add (x := x) (k := w) (by omega)
    rw [Int.mul_comm] at h1 h2
    exact ⟨h1, h2⟩
  · rintro ⟨h1, h2⟩
    have a := (Int.le_ediv_iff_mul_le (show 0 < w by omega)).2 h1
    have b := Int.ediv_lt_of_lt_mul (show 0 < w by omega) (show x < (m + 1) * w by rw [Int.add_mul]; omega)
    omega
theorem quo_up {x w a : Int} (hw : 1 ≤ w) (_ : 0 ≤ x) (hx : x < a) : x / w < (a + w - 1) / w := by
  have h1 := Int.mul_ediv_self_le (x := x) (k := w) (by omega)
  have : x / w + 1 ≤ (a + w - 1) / w := (Int.le_ediv_iff_mul_le (by omega)).2 (by rw [Int.add_mul, Int.mul_comm]; omega)
  omega
theorem place_is {A q r n : Int} (hA : 1 ≤ A) (hr : 0 ≤ r) (hr' : r < A) : q * A + r = n ↔ q = n / A ∧ r = n % A := by
  have e := Int.mul_ediv_add_emod n A
  have m0 := Int.emod_nonneg n (show A ≠ 0 by omega)
  have m1 := Int.emod_lt_of_pos n (show 0 < A by omega)
  constructor
  · rintro rfl
    have : (q * A + r) / A = q := (ediv_is hA).2 ⟨by omega, by omega⟩
    rw [this] at e ⊢
    rw [Int.mul_comm A q] at e
    exact ⟨rfl, by omega⟩
  · rintro ⟨rfl, rfl⟩
    rw [Int.mul_comm]; exact e
theorem in_rect {g : GrD} (hB : GrBnd g) (x y n : Int) (x0 : 0 ≤ x) (x1 : x < g.across) (_ : 0 ≤ y) (y1 : y < g.down) :
    (rectX g n ≤ x ∧ x < rectX g n + rectW g n ∧ rectY g n ≤ y ∧ y < rectY g n + rectH g n) ↔ atN g x y = n := by
  have hw := hB.w0
  have hh := hB.h0
  have r1 : x / g.wide < gridA g := quo_up hw x0 x1
  have r0 : 0 ≤ x / g.wide := Int.ediv_nonneg x0 (by omega)
  unfold atN
  rw [place_is hB.gA.1 r0 r1, ediv_is hh, ediv_is hw]
  unfold rectW rectH rectX rectY
  omega
end Go.Proofs.YtneakieigiafpaaGreatDoor
