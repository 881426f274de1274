/- TilePlaces, plain: the rectangles' cells together are the window's; a cell lies in just the rectangle that atN names. -/
import Derived.Test.YtneakieigiafpaaGreatDoorPlc
import Derived.Test.YtneakieigiafpaaGreatDoorRectW
namespace Go.Proofs.YtneakieigiafpaaGreatDoor
open Go.RowKit

/-- How many cells the first n rectangles have. -/
def areaN (g : GrD) (n : Int) : Int := min (n / gridA g * g.high) g.down * g.across + min (n % gridA g * g.wide) g.across * min g.high (g.down - n / gridA g * g.high)
theorem piece {w A : Int} (hw : 1 ≤ w) (_ : 1 ≤ A) : A ≤ (A + w - 1) / w * w ∧ ∀ j : Int, j < (A + w - 1) / w → j * w ≤ A := by
  have h1 := Int.emod_add_mul_ediv (A + w - 1) w
  have h2 := Int.emod_nonneg (A + w - 1) (show w ≠ 0 by omega)
  have h3 := Int.emod_lt_of_pos (A + w - 1) (show 0 < w by omega)
  rw [Int.mul_comm] at h1
  refine ⟨by omega, fun j hj => ?_⟩
  have h4 : (j + 1) * w ≤ (A + w - 1) / w * w := Int.mul_le_mul_of_nonneg_right (by omega) (by omega)
  rw [Int.add_mul] at h4
  omega
theorem area_zero {g : GrD} (hB : GrBnd g) : areaN g 0 = 0 := by
  have := hB.d0
  have := hB.a0
  unfold areaN
  simp
  rw [show min 0 g.down = 0 by omega, show min 0 g.across = 0 by omega]
  simp
theorem area_step {g : GrD} (hB : GrBnd g) {n : Int} (h0 : 0 ≤ n) (h1 : n < gridA g * gridD g) : areaN g (n + 1) = areaN g n + rectW g n * rectH g n := by
  have hA := hB.gA.1
  have hw := hB.w0
  have hh := hB.h0
  obtain ⟨pa, pb⟩ := piece hw hB.a0
  obtain ⟨da, db⟩ := piece hh hB.d0
  have eA : gridA g = (g.across + g.wide - 1) / g.wide := rfl
  have eD : gridD g = (g.down + g.high - 1) / g.high := rfl
  rw [← eA] at pa pb
  rw [← eD] at da db
  have e := Int.mul_ediv_add_emod n (gridA g)
  have m0 := Int.emod_nonneg n (show gridA g ≠ 0 by omega)
  have m1 := Int.emod_lt_of_pos n (show 0 < gridA g by omega)
  have q1 : n / gridA g < gridD g := Int.ediv_lt_of_lt_mul (by omega) (by rw [Int.mul_comm]; exact h1)
  have q0 : 0 ≤ n / gridA g := Int.ediv_nonneg h0 (by omega)
  unfold rectW rectH rectX rectY
  have hq := db _ q1
  have hr := pb _ m1
  generalize hQ : n / gridA g = Q at *
  generalize hR : n % gridA g = R at *
  by_cases hl : R + 1 < gridA g
  · have e2 := (place_is (A := gridA g) (q := Q) (r := R + 1) (n := n + 1) hA (by omega) hl).1 (by rw [Int.mul_comm]; omega)
    have hr2 := pb _ hl
    unfold areaN
    rw [← e2.1, ← e2.2, hQ, hR]
    rw [Int.add_mul] at hr2 ⊢
    rw [show min (R * g.wide + 1 * g.wide) g.across = min (R * g.wide) g.across + min g.wide (g.across - R * g.wide) by omega, Int.add_mul]
    omega
  · have hRA : R = gridA g - 1 := by omega
    have e2 := (place_is (A := gridA g) (q := Q + 1) (r := 0) (n := n + 1) hA (by omega) (by omega)).1 (by rw [Int.add_mul, Int.mul_comm]; omega)
    unfold areaN
    rw [← e2.1, ← e2.2, hQ, hR]
    have hfull : R * g.wide + g.wide = gridA g * g.wide := by rw [hRA, Int.sub_mul]; omega
    rw [show min (0 * g.wide) g.across = 0 by have := hB.a0; omega, Int.zero_mul, Int.add_zero]
    rw [Int.add_assoc, ← Int.add_mul, show min (R * g.wide) g.across + min g.wide (g.across - R * g.wide) = g.across by omega]
    rw [Int.mul_comm g.across, ← Int.add_mul]
    congr 1
    rw [Int.add_mul]
    omega
theorem area_end {g : GrD} (hB : GrBnd g) : areaN g (gridA g * gridD g) = g.across * g.down := by
  have hA := hB.gA.1
  obtain ⟨da, db⟩ := piece hB.h0 hB.d0
  have eD : gridD g = (g.down + g.high - 1) / g.high := rfl
  rw [← eD] at da
  have e2 := (place_is (A := gridA g) (q := gridD g) (r := 0) (n := gridA g * gridD g) hA (by omega) (by omega)).1 (by rw [Int.mul_comm]; omega)
  unfold areaN
  rw [← e2.1, ← e2.2, show min (0 * g.wide) g.across = 0 by have := hB.a0; omega, Int.zero_mul, Int.add_zero, show min (gridD g * g.high) g.down = g.down by omega, Int.mul_comm]
theorem area_bnd {g : GrD} (hB : GrBnd g) (n : Int) (h0 : 0 ≤ n) (h1 : n ≤ gridA g * gridD g) : 0 ≤ areaN g n ∧ areaN g n ≤ 17179869184 := by
  have hA := hB.gA.1
  have q0 : 0 ≤ n / gridA g := Int.ediv_nonneg h0 (by omega)
  have m0 := Int.emod_nonneg n (show gridA g ≠ 0 by omega)
  have x0 : 0 ≤ n / gridA g * g.high := Int.mul_nonneg q0 (by have := hB.h0; omega)
  have y0 : 0 ≤ n % gridA g * g.wide := Int.mul_nonneg m0 (by have := hB.w0; omega)
  have a0 := hB.a0
  have a1 := hB.a1
  have d0 := hB.d0
  have d1 := hB.d1
  have h1' := hB.h1
  obtain ⟨da, db⟩ := piece hB.h0 hB.d0
  have eD : gridD g = (g.down + g.high - 1) / g.high := rfl
  rw [← eD] at da db
  have e := Int.mul_ediv_add_emod n (gridA g)
  have hcase : n / gridA g < gridD g ∨ n % gridA g = 0 := by
    by_cases hlt : n / gridA g < gridD g
    · exact .inl hlt
    · right
      have h2 : gridA g * gridD g ≤ gridA g * (n / gridA g) := Int.mul_le_mul_of_nonneg_left (by omega) (by omega)
      omega
  have hc2 : n / gridA g * g.high ≤ g.down ∨ n % gridA g * g.wide = 0 := by
    rcases hcase with h | h
    · exact .inl (db _ h)
    · right; rw [h, Int.zero_mul]
  clear hcase e
  unfold areaN
  generalize hX : n / gridA g * g.high = X at *
  generalize hY : n % gridA g * g.wide = Y at *
  have t1 : 0 ≤ min X g.down * g.across := Int.mul_nonneg (by omega) (by omega)
  have t2 : min X g.down * g.across ≤ 65536 * 65536 := Int.mul_le_mul (by omega) a1 (by omega) (by decide)
  rcases hc2 with hle | hy
  · have t3 : 0 ≤ min Y g.across * min g.high (g.down - X) := Int.mul_nonneg (by omega) (by have := hB.h0; omega)
    have t4 : min Y g.across * min g.high (g.down - X) ≤ 65536 * 65536 := Int.mul_le_mul (by omega) (by omega) (by have := hB.h0; omega) (by decide)
    omega
  · rw [show min Y g.across = 0 by omega, Int.zero_mul]
    omega
theorem piece_up {w A r : Int} (hw : 1 ≤ w) (hr : r < (A + w - 1) / w) : r * w + 1 ≤ A := by
  have h1 := Int.mul_ediv_self_le (x := A + w - 1) (k := w) (by omega)
  have h4 : (r + 1) * w ≤ (A + w - 1) / w * w := Int.mul_le_mul_of_nonneg_right (by omega) (by omega)
  rw [Int.add_mul] at h4
  rw [Int.mul_comm] at h1
  omega
/-- A rectangle lies in its window, and has a cell. -/
theorem rect_lies {g : GrD} (hB : GrBnd g) {n : Int} (h0 : 0 ≤ n) (h1 : n < gridA g * gridD g) : 0 ≤ rectX g n ∧ rectX g n + rectW g n ≤ g.across ∧ 0 ≤ rectY g n ∧ rectY g n + rectH g n ≤ g.down ∧ 1 ≤ rectW g n ∧ 1 ≤ rectH g n := by
  have hA := hB.gA.1
  have hw := hB.w0
  have hh := hB.h0
  have m0 := Int.emod_nonneg n (show gridA g ≠ 0 by omega)
  have m1 := Int.emod_lt_of_pos n (show 0 < gridA g by omega)
  have d0 := Int.ediv_nonneg h0 (show 0 ≤ gridA g by omega)
  have p1 := Int.mul_nonneg m0 (show 0 ≤ g.wide by omega)
  have p2 := Int.mul_nonneg d0 (show 0 ≤ g.high by omega)
  have q1 : n / gridA g < gridD g := Int.ediv_lt_of_lt_mul (by omega) (by rw [Int.mul_comm]; exact h1)
  have e1 : n % gridA g * g.wide + 1 ≤ g.across := piece_up hw m1
  have e2 : n / gridA g * g.high + 1 ≤ g.down := piece_up hh q1
  unfold rectW rectH rectX rectY
  omega
theorem area_lt {g : GrD} (hB : GrBnd g) : ∀ (d a : Nat), (a + 1 + d : Int) ≤ gridA g * gridD g → areaN g a < areaN g (a + 1 + d : Nat)
  | 0, a, h => by
    have h0 : (0 : Int) ≤ a := Int.natCast_nonneg a
    have h1 : (a : Int) < gridA g * gridD g := by omega
    have e := area_step hB h0 h1
    obtain ⟨-, -, -, -, r1, r2⟩ := rect_lies hB h0 h1
    have : 0 < rectW g a * rectH g a := Int.mul_pos (by omega) (by omega)
    rw [show ((a + 1 + 0 : Nat) : Int) = (a : Int) + 1 by omega]
    omega
  | d + 1, a, h => by
    have h0 : (0 : Int) ≤ ((a + 1 + d : Nat) : Int) := Int.natCast_nonneg _
    have h1 : ((a + 1 + d : Nat) : Int) < gridA g * gridD g := by omega
    have e := area_step hB h0 h1
    obtain ⟨-, -, -, -, r1, r2⟩ := rect_lies hB h0 h1
    have : 0 < rectW g ((a + 1 + d : Nat) : Int) * rectH g ((a + 1 + d : Nat) : Int) := Int.mul_pos (by omega) (by omega)
    have ih := area_lt hB d a (by omega)
    rw [show ((a + 1 + (d + 1) : Nat) : Int) = ((a + 1 + d : Nat) : Int) + 1 by omega]
    omega
theorem area_inj {g : GrD} (hB : GrBnd g) {a b : Nat} (ha : (a : Int) ≤ gridA g * gridD g) (hb : (b : Int) ≤ gridA g * gridD g) (h : areaN g a = areaN g b) : a = b := by
  rcases Nat.lt_trichotomy a b with hlt | rfl | hlt
  · have := area_lt hB (b - a - 1) a (by omega)
    rw [show a + 1 + (b - a - 1) = b by omega] at this
    omega
  · rfl
  · have := area_lt hB (a - b - 1) b (by omega)
    rw [show b + 1 + (a - b - 1) = a by omega] at this
    omega
/-- Does the window have the cell? -/
def inG (g : GrD) (x y : Int) : Bool := decide (0 ≤ x) && decide (0 ≤ y) && decide (x < g.across) && decide (y < g.down)
theorem inG_iff {g : GrD} {x y : Int} : inG g x y = true ↔ 0 ≤ x ∧ 0 ≤ y ∧ x < g.across ∧ y < g.down := by unfold inG; simp [and_assoc]
def atV (g : GrD) (x y : Int) : Int := if inG g x y then atN g x y else 0
def erV (g : GrD) (x y : Int) : Int := if inG g x y then 0 else 241
/-- Which of the first n rectangles holds the cell. -/
def hasN (g : GrD) (x y n : Int) : Int := if inG g x y = true ∧ atN g x y < n then atN g x y else -1
theorem at_bnd {g : GrD} (hB : GrBnd g) {x y : Int} (h : inG g x y = true) : 0 ≤ atN g x y ∧ atN g x y < gridA g * gridD g := by
  obtain ⟨x0, y0, x1, y1⟩ := inG_iff.1 h
  have r1 : x / g.wide < gridA g := quo_up hB.w0 x0 x1
  have r0 : 0 ≤ x / g.wide := Int.ediv_nonneg x0 (by have := hB.w0; omega)
  have s1 : y / g.high < gridD g := quo_up hB.h0 y0 y1
  have s0 : 0 ≤ y / g.high := Int.ediv_nonneg y0 (by have := hB.h0; omega)
  have hA := hB.gA.1
  have p0 : 0 ≤ y / g.high * gridA g := Int.mul_nonneg s0 (by omega)
  have p1 : (y / g.high + 1) * gridA g ≤ gridD g * gridA g := Int.mul_le_mul_of_nonneg_right (by omega) (by omega)
  rw [Int.add_mul, Int.mul_comm (gridD g)] at p1
  unfold atN
  omega
theorem has_zero {g : GrD} (hB : GrBnd g) (x y : Int) : hasN g x y 0 = -1 := by
  unfold hasN
  by_cases h : inG g x y = true
  · have := at_bnd hB h; rw [if_neg (by omega)]
  · rw [if_neg (fun k => h k.1)]
/-- A rectangle that does not hold the cell. -/
theorem has_far {g : GrD} (hB : GrBnd g) {x y n : Int} (h : ¬ (rectX g n ≤ x ∧ x < rectX g n + rectW g n ∧ rectY g n ≤ y ∧ y < rectY g n + rectH g n)) : hasN g x y (n + 1) = hasN g x y n := by
  unfold hasN
  by_cases hi : inG g x y = true
  · obtain ⟨x0, y0, x1, y1⟩ := inG_iff.1 hi
    have hne : atN g x y ≠ n := fun e => h ((in_rect hB x y n x0 x1 y0 y1).2 e)
    by_cases hlt : atN g x y < n
    · rw [if_pos ⟨hi, by omega⟩, if_pos ⟨hi, hlt⟩]
    · rw [if_neg (by omega), if_neg (by omega)]
  · rw [if_neg (fun k => hi k.1), if_neg (fun k => hi k.1)]
/-- The rectangle that holds it. -/
theorem has_near {g : GrD} (hB : GrBnd g) {x y n : Int} (h0 : 0 ≤ n) (h1 : n < gridA g * gridD g) (h : rectX g n ≤ x ∧ x < rectX g n + rectW g n ∧ rectY g n ≤ y ∧ y < rectY g n + rectH g n) : hasN g x y n = -1 ∧ hasN g x y (n + 1) = n := by
  obtain ⟨r1, r2, r3, r4, -, -⟩ := rect_lies hB h0 h1
  have hi : inG g x y = true := inG_iff.2 ⟨by omega, by omega, by omega, by omega⟩
  have e := (in_rect hB x y n (by omega) (by omega) (by omega) (by omega)).1 h
  unfold hasN
  rw [if_neg (by omega), if_pos ⟨hi, by omega⟩]
  exact ⟨rfl, e⟩
theorem has_end {g : GrD} (hB : GrBnd g) (x y : Int) : hasN g x y (gridA g * gridD g) = if inG g x y then atN g x y else -1 := by
  unfold hasN
  by_cases hi : inG g x y = true
  · rw [if_pos ⟨hi, (at_bnd hB hi).2⟩, if_pos hi]
  · rw [if_neg (fun k => hi k.1), if_neg hi]
end Go.Proofs.YtneakieigiafpaaGreatDoor
