/- PlcL, JoiP, JoiM: texts of one claim laid together. -/
import Derived.Test.YtneakieigiafpaaGreatDoorTilX
import Derived.Test.YtneakieigiafpaaGreatDoorGriX4
import Derived.Test.YtneakieigiafpaaGreatDoorJoinL
import Derived.Test.YtneakieigiafpaaGreatDoorJonX
/- TilePlaces, plain: the rectangles' cells together are the window's; a cell lies in just the rectangle that atN names. -/
namespace Go.Proofs.YtneakieigiafpaaGreatDoor
open Go.RowKit

/-- How many cells the first n rectangles have. -/
def areaN (g : GrD) (n : Int) : Int := min (n / gridA g * g.high) g.down * g.across + min (n % gridA g * g.wide) g.across * min g.high (g.down - n / gridA g * g.high)
theorem piece {w A : Int} (hw : 1 ≤ w) (_ : 1 ≤ A) : A ≤ (A + w - 1) / w * w ∧ ∀ j : Int, j < (A + w - 1) / w → j * w ≤ A := by
  have h1 := Int.emod_add_mul_ediv (A + w - 1) w
  have h2 := Int.emod_nonneg (A + w - 1) (show w ≠ 0 by omega)
  have h3 := Int.emod_lt_of_pos (A + w - 1) (show 0 < w by omega)
  rw [Int.mul_comm] at h1
  refine ⟨by omega, fun j hj => ?_⟩
  have h4 : (j + 1) * w ≤ (A + w - 1) / w * w := Int.mul_le_mul_of_nonneg_right (by omega) (by omega)
  rw [Int.add_mul] at h4
  omega
theorem area_zero {g : GrD} (hB : GrBnd g) : areaN g 0 = 0 := by
  have := hB.d0
  have := hB.a0
  unfold areaN
  simp
  rw [show min 0 g.down = 0 by omega, show min 0 g.across = 0 by omega]
  simp
theorem area_step {g : GrD} (hB : GrBnd g) {n : Int} (h0 : 0 ≤ n) (h1 : n < gridA g * gridD g) : areaN g (n + 1) = areaN g n + rectW g n * rectH g n := by
  have hA := hB.gA.1
  have hw := hB.w0
  have hh := hB.h0
  obtain ⟨pa, pb⟩ := piece hw hB.a0
  obtain ⟨da, db⟩ := piece hh hB.d0
  have eA : gridA g = (g.across + g.wide - 1) / g.wide := rfl
  have eD : gridD g = (g.down + g.high - 1) / g.high := rfl
  rw [← eA] at pa pb
  rw [← eD] at da db
  have e := Int.mul_ediv_add_emod n (gridA g)
  have m0 := Int.emod_nonneg n (show gridA g ≠ 0 by omega)
  have m1 := Int.emod_lt_of_pos n (show 0 < gridA g by omega)
  have q1 : n / gridA g < gridD g := Int.ediv_lt_of_lt_mul (by omega) (by rw [Int.mul_comm]; exact h1)
  have q0 : 0 ≤ n / gridA g := Int.ediv_nonneg h0 (by omega)
  unfold rectW rectH rectX rectY
  have hq := db _ q1
  have hr := pb _ m1
  generalize hQ : n / gridA g = Q at *
  generalize hR : n % gridA g = R at *
  by_cases hl : R + 1 < gridA g
  · have e2 := (place_is (A := gridA g) (q := Q) (r := R + 1) (n := n + 1) hA (by omega) hl).1 (by rw [Int.mul_comm]; omega)
    have hr2 := pb _ hl
    unfold areaN
    rw [← e2.1, ← e2.2, hQ, hR]
    rw [Int.add_mul] at hr2 ⊢
    rw [show min (R * g.wide + 1 * g.wide) g.across = min (R * g.wide) g.across + min g.wide (g.across - R * g.wide) by omega, Int.add_mul]
    omega
  · have hRA : R = gridA g - 1 := by omega
    have e2 := (place_is (A := gridA g) (q := Q + 1) (r := 0) (n := n + 1) hA (by omega) (by omega)).1 (by rw [Int.add_mul, Int.mul_comm]; omega)
    unfold areaN
    rw [← e2.1, ← e2.2, hQ, hR]
    have hfull : R * g.wide + g.wide = gridA g * g.wide := by rw [hRA, Int.sub_mul]; omega
    rw [show min (0 * g.wide) g.across = 0 by have := hB.a0; omega, Int.zero_mul, Int.add_zero]
    rw [Int.add_assoc, ← Int.add_mul, show min (R * g.wide) g.across + min g.wide (g.across - R * g.wide) = g.across by omega]
    rw [Int.mul_comm g.across, ← Int.add_mul]
    congr 1
    rw [Int.add_mul]
    omega
theorem area_end {g : GrD} (hB : GrBnd g) : areaN g (gridA g * gridD g) = g.across * g.down := by
  have hA := hB.gA.1
  obtain ⟨da, db⟩ := piece hB.h0 hB.d0
  have eD : gridD g = (g.down + g.high - 1) / g.high := rfl
  rw [← eD] at da
  have e2 := (place_is (A := gridA g) (q := gridD g) (r := 0) (n := gridA g * gridD g) hA (by omega) (by omega)).1 (by rw [Int.mul_comm]; omega)
  unfold areaN
  rw [← e2.1, ← e2.2, show min (0 * g.wide) g.across = 0 by have := hB.a0; omega, Int.zero_mul, Int.add_zero, show min (gridD g * g.high) g.down = g.down by omega, Int.mul_comm]
theorem area_bnd {g : GrD} (hB : GrBnd g) (n : Int) (h0 : 0 ≤ n) (h1 : n ≤ gridA g * gridD g) : 0 ≤ areaN g n ∧ areaN g n ≤ 17179869184 := by
  have hA := hB.gA.1
  have q0 : 0 ≤ n / gridA g := Int.ediv_nonneg h0 (by omega)
  have m0 := Int.emod_nonneg n (show gridA g ≠ 0 by omega)
  have x0 : 0 ≤ n / gridA g * g.high := Int.mul_nonneg q0 (by have := hB.h0; omega)
  have y0 : 0 ≤ n % gridA g * g.wide := Int.mul_nonneg m0 (by have := hB.w0; omega)
  have a0 := hB.a0
  have a1 := hB.a1
  have d0 := hB.d0
  have d1 := hB.d1
  have h1' := hB.h1
  obtain ⟨da, db⟩ := piece hB.h0 hB.d0
  have eD : gridD g = (g.down + g.high - 1) / g.high := rfl
  rw [← eD] at da db
  have e := Int.mul_ediv_add_emod n (gridA g)
  have hcase : n / gridA g < gridD g ∨ n % gridA g = 0 := by
    by_cases hlt : n / gridA g < gridD g
    · exact .inl hlt
    · right
      have h2 : gridA g * gridD g ≤ gridA g * (n / gridA g) := Int.mul_le_mul_of_nonneg_left (by omega) (by omega)
      omega
  have hc2 : n / gridA g * g.high ≤ g.down ∨ n % gridA g * g.wide = 0 := by
    rcases hcase with h | h
    · exact .inl (db _ h)
    · right; rw [h, Int.zero_mul]
  clear hcase e
  unfold areaN
  generalize hX : n / gridA g * g.high = X at *
  generalize hY : n % gridA g * g.wide = Y at *
  have t1 : 0 ≤ min X g.down * g.across := Int.mul_nonneg (by omega) (by omega)
  have t2 : min X g.down * g.across ≤ 65536 * 65536 := Int.mul_le_mul (by omega) a1 (by omega) (by decide)
  rcases hc2 with hle | hy
  · have t3 : 0 ≤ min Y g.across * min g.high (g.down - X) := Int.mul_nonneg (by omega) (by have := hB.h0; omega)
    have t4 : min Y g.across * min g.high (g.down - X) ≤ 65536 * 65536 := Int.mul_le_mul (by omega) (by omega) (by have := hB.h0; omega) (by decide)
    omega
  · rw [show min Y g.across = 0 by omega, Int.zero_mul]
    omega
theorem piece_up {w A r : Int} (hw : 1 ≤ w) (hr : r < (A + w - 1) / w) : r * w + 1 ≤ A := by
  have h1 := Int.mul_ediv_self_le (x := A + w - 1) (k := w) (by omega)
  have h4 : (r + 1) * w ≤ (A + w - 1) / w * w := Int.mul_le_mul_of_nonneg_right (by omega) (by omega)
  rw [Int.add_mul] at h4
  rw [Int.mul_comm] at h1
  omega
/-- A rectangle lies in its window, and has a cell. -/
theorem rect_lies {g : GrD} (hB : GrBnd g) {n : Int} (h0 : 0 ≤ n) (h1 : n < gridA g * gridD g) : 0 ≤ rectX g n ∧ rectX g n + rectW g n ≤ g.across ∧ 0 ≤ rectY g n ∧ rectY g n + rectH g n ≤ g.down ∧ 1 ≤ rectW g n ∧ 1 ≤ rectH g n := by
  have hA := hB.gA.1
  have hw := hB.w0
  have hh := hB.h0
  have m0 := Int.emod_nonneg n (show gridA g ≠ 0 by omega)
  have m1 := Int.emod_lt_of_pos n (show 0 < gridA g by omega)
  have d0 := Int.ediv_nonneg h0 (show 0 ≤ gridA g by omega)
  have p1 := Int.mul_nonneg m0 (show 0 ≤ g.wide by omega)
  have p2 := Int.mul_nonneg d0 (show 0 ≤ g.high by omega)
  have q1 : n / gridA g < gridD g := Int.ediv_lt_of_lt_mul (by omega) (by rw [Int.mul_comm]; exact h1)
  have e1 : n % gridA g * g.wide + 1 ≤ g.across := piece_up hw m1
  have e2 : n / gridA g * g.high + 1 ≤ g.down := piece_up hh q1
  unfold rectW rectH rectX rectY
  omega
theorem area_lt {g : GrD} (hB : GrBnd g) : ∀ (d a : Nat), (a + 1 + d : Int) ≤ gridA g * gridD g → areaN g a < areaN g (a + 1 + d : Nat)
  | 0, a, h => by
    have h0 : (0 : Int) ≤ a := Int.natCast_nonneg a
    have h1 : (a : Int) < gridA g * gridD g := by omega
    have e := area_step hB h0 h1
    obtain ⟨-, -, -, -, r1, r2⟩ := rect_lies hB h0 h1
    have : 0 < rectW g a * rectH g a := Int.mul_pos (by omega) (by omega)
    rw [show ((a + 1 + 0 : Nat) : Int) = (a : Int) + 1 by omega]
    omega
  | d + 1, a, h => by
    have h0 : (0 : Int) ≤ ((a + 1 + d : Nat) : Int) := Int.natCast_nonneg _
    have h1 : ((a + 1 + d : Nat) : Int) < gridA g * gridD g := by omega
    have e := area_step hB h0 h1
    obtain ⟨-, -, -, -, r1, r2⟩ := rect_lies hB h0 h1
    have : 0 < rectW g ((a + 1 + d : Nat) : Int) * rectH g ((a + 1 + d : Nat) : Int) := Int.mul_pos (by omega) (by omega)
    have ih := area_lt hB d a (by omega)
    rw [show ((a + 1 + (d + 1) : Nat) : Int) = ((a + 1 + d : Nat) : Int) + 1 by omega]
    omega
theorem area_inj {g : GrD} (hB : GrBnd g) {a b : Nat} (ha : (a : Int) ≤ gridA g * gridD g) (hb : (b : Int) ≤ gridA g * gridD g) (h : areaN g a = areaN g b) : a = b := by
  rcases Nat.lt_trichotomy a b with hlt | rfl | hlt
  · have := area_lt hB (b - a - 1) a (by omega)
    rw [show a + 1 + (b - a - 1) = b by omega] at this
    omega
  · rfl
  · have := area_lt hB (a - b - 1) b (by omega)
    rw [show b + 1 + (a - b - 1) = a by omega] at this
    omega
/-- Does the window have the cell? -/
def inG (g : GrD) (x y : Int) : Bool := decide (0 ≤ x) && decide (0 ≤ y) && decide (x < g.across) && decide (y < g.down)
theorem inG_iff {g : GrD} {x y : Int} : inG g x y = true ↔ 0 ≤ x ∧ 0 ≤ y ∧ x < g.across ∧ y < g.down := by unfold inG; simp [and_assoc]
def atV (g : GrD) (x y : Int) : Int := if inG g x y then atN g x y else 0
def erV (g : GrD) (x y : Int) : Int := if inG g x y then 0 else 241
/-- Which of the first n rectangles holds the cell. -/
def hasN (g : GrD) (x y n : Int) : Int := if inG g x y = true ∧ atN g x y < n then atN g x y else -1
theorem at_bnd {g : GrD} (hB : GrBnd g) {x y : Int} (h : inG g x y = true) : 0 ≤ atN g x y ∧ atN g x y < gridA g * gridD g := by
  obtain ⟨x0, y0, x1, y1⟩ := inG_iff.1 h
  have r1 : x / g.wide < gridA g := quo_up hB.w0 x0 x1
  have r0 : 0 ≤ x / g.wide := Int.ediv_nonneg x0 (by have := hB.w0; omega)
  have s1 : y / g.high < gridD g := quo_up hB.h0 y0 y1
  have s0 : 0 ≤ y / g.high := Int.ediv_nonneg y0 (by have := hB.h0; omega)
  have hA := hB.gA.1
  have p0 : 0 ≤ y / g.high * gridA g := Int.mul_nonneg s0 (by omega)
  have p1 : (y / g.high + 1) * gridA g ≤ gridD g * gridA g := Int.mul_le_mul_of_nonneg_right (by omega) (by omega)
  rw [Int.add_mul, Int.mul_comm (gridD g)] at p1
  unfold atN
  omega
theorem has_zero {g : GrD} (hB : GrBnd g) (x y : Int) : hasN g x y 0 = -1 := by
  unfold hasN
  by_cases h : inG g x y = true
  · have := at_bnd hB h; rw [if_neg (by omega)]
  · rw [if_neg (fun k => h k.1)]
/-- A rectangle that does not hold the cell. -/
theorem has_far {g : GrD} (hB : GrBnd g) {x y n : Int} (h : ¬ (rectX g n ≤ x ∧ x < rectX g n + rectW g n ∧ rectY g n ≤ y ∧ y < rectY g n + rectH g n)) : hasN g x y (n + 1) = hasN g x y n := by
  unfold hasN
  by_cases hi : inG g x y = true
  · obtain ⟨x0, y0, x1, y1⟩ := inG_iff.1 hi
    have hne : atN g x y ≠ n := fun e => h ((in_rect hB x y n x0 x1 y0 y1).2 e)
    by_cases hlt : atN g x y < n
    · rw [if_pos ⟨hi, by omega⟩, if_pos ⟨hi, hlt⟩]
    · rw [if_neg (by omega), if_neg (by omega)]
  · rw [if_neg (fun k => hi k.1), if_neg (fun k => hi k.1)]
/-- The rectangle that holds it. -/
theorem has_near {g : GrD} (hB : GrBnd g) {x y n : Int} (h0 : 0 ≤ n) (h1 : n < gridA g * gridD g) (h : rectX g n ≤ x ∧ x < rectX g n + rectW g n ∧ rectY g n ≤ y ∧ y < rectY g n + rectH g n) : hasN g x y n = -1 ∧ hasN g x y (n + 1) = n := by
  obtain ⟨r1, r2, r3, r4, -, -⟩ := rect_lies hB h0 h1
  have hi : inG g x y = true := inG_iff.2 ⟨by omega, by omega, by omega, by omega⟩
  have e := (in_rect hB x y n (by omega) (by omega) (by omega) (by omega)).1 h
  unfold hasN
  rw [if_neg (by omega), if_pos ⟨hi, by omega⟩]
  exact ⟨rfl, e⟩
theorem has_end {g : GrD} (hB : GrBnd g) (x y : Int) : hasN g x y (gridA g * gridD g) = if inG g x y then atN g x y else -1 := by
  unfold hasN
  by_cases hi : inG g x y = true
  · rw [if_pos ⟨hi, (at_bnd hB hi).2⟩, if_pos hi]
  · rw [if_neg (fun k => hi k.1), if_neg hi]
end Go.Proofs.YtneakieigiafpaaGreatDoor

/- Tiles put together in any order, plainly. -/
namespace Go.Proofs.YtneakieigiafpaaGreatDoor
open Go.RowKit

def offT (T : TilD) (x y : Int) : Int := (y - T.y) * T.a + (x - T.x)
def inT (T : TilD) (x y : Int) : Bool := decide (T.x ≤ x ∧ x < T.x + T.a ∧ T.y ≤ y ∧ y < T.y + T.d)
theorem inT_iff {T : TilD} {x y : Int} : inT T x y = true ↔ T.x ≤ x ∧ x < T.x + T.a ∧ T.y ≤ y ∧ y < T.y + T.d := by simp [inT]
/-- What the tiles of a list say of a place. -/
def baseP (L : List TilD) (x y : Int) : Wit := ((L.find? fun T => inT T x y).bind fun T => T.c[(offT T x y).toNat]?).getD wit0
/-- The same where of one more tile k cells are laid. -/
def partP (g : GrD) (L : List TilD) (T : TilD) (k : Int) (i : Nat) : Wit :=
  if inT T ((i : Int) % g.across) ((i : Int) / g.across) = true ∧ offT T ((i : Int) % g.across) ((i : Int) / g.across) < k then (T.c[(offT T ((i : Int) % g.across) ((i : Int) / g.across)).toNat]?).getD wit0 else baseP L ((i : Int) % g.across) ((i : Int) / g.across)
def partC (g : GrD) (L : List TilD) (T : TilD) (k : Int) : List Wit := (List.range (g.across * g.down).toNat).map (partP g L T k)
def baseC (g : GrD) (L : List TilD) : List Wit := (List.range (g.across * g.down).toNat).map fun i : Nat => baseP L ((i : Int) % g.across) ((i : Int) / g.across)
theorem partC_length (g : GrD) (L : List TilD) (T : TilD) (k : Int) : (partC g L T k).length = (g.across * g.down).toNat := by simp [partC]
theorem baseC_length (g : GrD) (L : List TilD) : (baseC g L).length = (g.across * g.down).toNat := by simp [baseC]
theorem partC_at (g : GrD) (L : List TilD) (T : TilD) (k : Int) (i : Nat) : (partC g L T k)[i]? = if i < (g.across * g.down).toNat then some (partP g L T k i) else none := by
  simp only [partC, List.getElem?_map]
  by_cases h : i < (g.across * g.down).toNat <;> simp [h]
theorem baseC_nil (g : GrD) : baseC g [] = List.replicate (g.across * g.down).toNat wit0 := by
  apply List.ext_getElem?
  intro i
  simp only [baseC, List.getElem?_map, List.getElem?_replicate]
  by_cases h : i < (g.across * g.down).toNat <;> simp [h, baseP]
theorem off_bounds {T : TilD} {x y : Int} (h : inT T x y = true) : 0 ≤ offT T x y ∧ offT T x y < T.a * T.d := by
  obtain ⟨h1, h2, h3, h4⟩ := inT_iff.1 h
  have m1 := Int.mul_nonneg (show 0 ≤ y - T.y by omega) (show 0 ≤ T.a by omega)
  have m2 := Int.mul_le_mul_of_nonneg_right (show y - T.y + 1 ≤ T.d by omega) (show 0 ≤ T.a by omega)
  rw [Int.add_mul, Int.one_mul, Int.mul_comm T.d] at m2
  unfold offT
  omega
theorem partC_zero (g : GrD) (L : List TilD) (T : TilD) : partC g L T 0 = baseC g L := by
  unfold partC baseC
  apply List.map_congr_left
  intro i _
  unfold partP
  rw [if_neg]
  rintro ⟨h1, h2⟩
  have := (off_bounds h1).1
  omega
theorem partC_full {g : GrD} {L : List TilD} {T : TilD} (hno : ∀ i, i < (g.across * g.down).toNat → inT T ((i : Int) % g.across) ((i : Int) / g.across) = true → L.find? (fun U => inT U ((i : Int) % g.across) ((i : Int) / g.across)) = none) : partC g L T (T.a * T.d) = baseC g (L ++ [T]) := by
  unfold partC baseC
  apply List.map_congr_left
  intro i hi
  have hi := List.mem_range.1 hi
  unfold partP
  cases h : inT T ((i : Int) % g.across) ((i : Int) / g.across) with
  | true =>
    rw [if_pos ⟨rfl, (off_bounds h).2⟩]
    unfold baseP
    rw [List.find?_append, hno i hi h]
    simp [h]
  | false =>
    rw [if_neg (by simp)]
    unfold baseP
    rw [List.find?_append]
    simp [h]
/-- A tile that lies in the window. -/
structure Lies (g : GrD) (T : TilD) : Prop where
  x0 : 0 ≤ T.x
  x1 : T.x + T.a ≤ g.across
  y0 : 0 ≤ T.y
  y1 : T.y + T.d ≤ g.down
  a0 : 1 ≤ T.a
  d0 : 1 ≤ T.d
  len : (T.c.length : Int) = T.a * T.d
theorem partC_row {g : GrD} (hB : GrBnd g) (L : List TilD) {T : TilD} (hT : Lies g T) {k : Nat} (k1 : (k : Int) < T.d) {f : Nat} (hf : (f : Int) = (T.y + k) * g.across + T.x) :
    partC g L T (((k + 1 : Nat) : Int) * T.a) = (partC g L T (k * T.a)).take f ++ ((T.c.drop ((k : Int) * T.a).toNat).take T.a.toNat ++ (partC g L T (k * T.a)).drop (f + T.a.toNat)) := by
  obtain ⟨r1, r2, r3, r4, r5, r6, hl⟩ := hT
  have ha := hB.a0
  have hseg := fun i : Int => in_seg (A := g.across) (r := T.y + k) (X := T.x) (a := T.a) (i := i) ha r1 r2
  have hkw : 0 ≤ (k : Int) * T.a := Int.mul_nonneg (by omega) (by omega)
  have hlast : (T.y + k + 1) * g.across ≤ g.down * g.across := Int.mul_le_mul_of_nonneg_right (by omega) (by omega)
  rw [Int.add_mul, Int.mul_comm g.down] at hlast
  have hfl : f + T.a.toNat ≤ (g.across * g.down).toNat := by omega
  have hkl : ((k : Int) + 1) * T.a ≤ T.d * T.a := Int.mul_le_mul_of_nonneg_right (by omega) (by omega)
  rw [Int.add_mul, Int.mul_comm T.d] at hkl
  have hk1 : ((k + 1 : Nat) : Int) * T.a = k * T.a + T.a := by rw [Int.natCast_add, Int.add_mul]; simp
  have hsl : ((T.c.drop ((k : Int) * T.a).toNat).take T.a.toNat).length = T.a.toNat := by rw [List.length_take, List.length_drop]; omega
  have htl : ((partC g L T (k * T.a)).take f).length = f := by rw [List.length_take, partC_length]; omega
  have same : ∀ i : Nat, i < (g.across * g.down).toNat → ¬ (f ≤ i ∧ i < f + T.a.toNat) → partP g L T (((k + 1 : Nat) : Int) * T.a) i = partP g L T (k * T.a) i := by
    intro i hi hno
    unfold partP
    cases h : inT T ((i : Int) % g.across) ((i : Int) / g.across) with
    | false => rw [if_neg (by simp), if_neg (by simp)]
    | true =>
      obtain ⟨h1, h2, h3, h4⟩ := inT_iff.1 h
      have hs := hseg i
      have hne : ¬ (i : Int) / g.across = T.y + k := fun e => hno (by have := hs.2 ⟨e, h1, h2⟩; omega)
      rw [hk1]
      by_cases c : (i : Int) / g.across < T.y + k
      · have m := Int.mul_le_mul_of_nonneg_right (show (i : Int) / g.across - T.y + 1 ≤ k by omega) (show 0 ≤ T.a by omega)
        rw [Int.add_mul, Int.one_mul] at m
        have ho : offT T ((i : Int) % g.across) ((i : Int) / g.across) < k * T.a := by unfold offT; omega
        rw [if_pos ⟨rfl, by omega⟩, if_pos ⟨rfl, ho⟩]
      · have m := Int.mul_le_mul_of_nonneg_right (show (k : Int) + 1 ≤ (i : Int) / g.across - T.y by omega) (show 0 ≤ T.a by omega)
        rw [Int.add_mul, Int.one_mul] at m
        have ho : ¬ offT T ((i : Int) % g.across) ((i : Int) / g.across) < k * T.a + T.a := by unfold offT; omega
        rw [if_neg (fun h => ho h.2), if_neg (fun h => ho (by have := h.2; omega))]
  apply List.ext_getElem?
  intro i
  rw [partC_at]
  by_cases a1 : i < f
  · rw [if_pos (by omega), List.getElem?_append_left (by rw [htl]; exact a1), List.getElem?_take_of_lt a1, partC_at, if_pos (by omega), same i (by omega) (by omega)]
  · rw [List.getElem?_append_right (by rw [htl]; omega), htl]
    by_cases a2 : i < f + T.a.toNat
    · rw [if_pos (by omega), List.getElem?_append_left (by rw [hsl]; omega), List.getElem?_take_of_lt (by omega), List.getElem?_drop]
      have hi : i < (g.across * g.down).toNat := by omega
      obtain ⟨q1, q2, q3⟩ := (hseg i).1 (by omega)
      have e := Int.mul_ediv_add_emod (i : Int) g.across
      rw [q1, Int.mul_comm] at e
      have hin : inT T ((i : Int) % g.across) ((i : Int) / g.across) = true := inT_iff.2 (by omega)
      have ho : offT T ((i : Int) % g.across) ((i : Int) / g.across) = k * T.a + ((i : Int) % g.across - T.x) := by
        unfold offT; rw [q1, show T.y + (k : Int) - T.y = k by omega]
      unfold partP
      rw [if_pos ⟨hin, by rw [ho, hk1]; omega⟩, ho]
      have hix : ((k : Int) * T.a + ((i : Int) % g.across - T.x)).toNat = ((k : Int) * T.a).toNat + (i - f) := by omega
      rw [hix]
      have hlt : ((k : Int) * T.a).toNat + (i - f) < T.c.length := by omega
      rw [List.getElem?_eq_getElem hlt]; rfl
    · rw [List.getElem?_append_right (by rw [hsl]; omega), hsl, List.getElem?_drop, partC_at]
      rw [show f + T.a.toNat + (i - f - T.a.toNat) = i by omega]
      by_cases a3 : i < (g.across * g.down).toNat
      · rw [if_pos a3, if_pos a3, same i a3 (by omega)]
      · rw [if_neg a3, if_neg a3]
theorem div_mod_of {a u v k : Int} (e : u * a + v = k) (h0 : 0 ≤ v) (h1 : v < a) : k / a = u ∧ k % a = v := by
  subst e
  constructor
  · rw [Int.add_comm, Int.add_mul_ediv_right _ _ (by omega), Int.ediv_eq_zero_of_lt h0 h1, Int.zero_add]
  · rw [Int.add_comm, Int.add_mul_emod_self_right, Int.emod_eq_of_lt h0 h1]
theorem partC_cell {g : GrD} (hB : GrBnd g) (L : List TilD) {T : TilD} (hT : Lies g T) {k : Nat} {v : Wit} (hk : T.c[k]? = some v) {f : Nat} (hf : (f : Int) = (T.y + (k : Int) / T.a) * g.across + T.x + (k : Int) % T.a) :
    partC g L T ((k + 1 : Nat) : Int) = (partC g L T k).set f v := by
  obtain ⟨r1, r2, r3, r4, r5, r6, hl⟩ := hT
  have ha := hB.a0
  have e := Int.mul_ediv_add_emod (k : Int) T.a
  have m0 := Int.emod_nonneg (k : Int) (show T.a ≠ 0 by omega)
  have m1 := Int.emod_lt_of_pos (k : Int) (show 0 < T.a by omega)
  have d0 := Int.ediv_nonneg (show 0 ≤ (k : Int) by omega) (show 0 ≤ T.a by omega)
  have hseg := fun i : Int => in_seg (A := g.across) (r := T.y + (k : Int) / T.a) (X := T.x + (k : Int) % T.a) (a := 1) (i := i) ha (by omega) (by omega)
  rw [Int.mul_comm] at e
  apply List.ext_getElem?
  intro i
  rw [List.getElem?_set, partC_at, partC_at, partC_length]
  by_cases hi : i < (g.across * g.down).toNat
  · rw [if_pos hi, if_pos hi]
    by_cases hfi : f = i
    · subst hfi
      rw [if_pos rfl, if_pos hi]
      obtain ⟨q1, q2, q3⟩ := (hseg f).1 (by omega)
      have hd : (k : Int) / T.a < T.d := by
        have hkl := (List.getElem?_eq_some_iff.1 hk).1
        exact Int.ediv_lt_of_lt_mul (by omega) (by rw [Int.mul_comm]; omega)
      have hin : inT T ((f : Int) % g.across) ((f : Int) / g.across) = true := inT_iff.2 (by omega)
      have ho : offT T ((f : Int) % g.across) ((f : Int) / g.across) = k := by
        unfold offT; rw [q1, show T.y + (k : Int) / T.a - T.y = (k : Int) / T.a by omega]; omega
      unfold partP
      rw [if_pos ⟨hin, by rw [ho]; omega⟩, ho, Int.toNat_natCast, hk]; rfl
    · rw [if_neg hfi]
      congr 1
      unfold partP
      cases h : inT T ((i : Int) % g.across) ((i : Int) / g.across) with
      | false => rw [if_neg (by simp), if_neg (by simp)]
      | true =>
        obtain ⟨h1, h2, h3, h4⟩ := inT_iff.1 h
        have hne : offT T ((i : Int) % g.across) ((i : Int) / g.across) ≠ k := by
          intro ho
          apply hfi
          have ⟨hd, hm⟩ := div_mod_of (a := T.a) (u := (i : Int) / g.across - T.y) (v := (i : Int) % g.across - T.x) (k := (k : Int)) ho (by omega) (by omega)
          have := (hseg i).2 ⟨by omega, by omega, by omega⟩
          omega
        by_cases c : offT T ((i : Int) % g.across) ((i : Int) / g.across) < (k : Int)
        · rw [if_pos ⟨rfl, by omega⟩, if_pos ⟨rfl, c⟩]
        · rw [if_neg (fun h => hne (by have := h.2; omega)), if_neg (fun h => c h.2)]
  · rw [if_neg hi, if_neg hi]
    split
    · rename_i h
      rw [if_neg (by omega)]
    · rfl

/-! ### Which tiles go together -/
def nT (g : GrD) (T : TilD) : Int := atN g T.x T.y
def fitJ (g : GrD) (T : TilD) : Bool := tileB T.x T.y T.a T.d T.c.length && decide (T.x < g.across ∧ T.y < g.down ∧ rectX g (nT g T) = T.x ∧ rectY g (nT g T) = T.y ∧ rectW g (nT g T) = T.a ∧ rectH g (nT g T) = T.d)
def metJ (g : GrD) (L : List TilD) (j : Int) : Bool := L.any fun T => decide (nT g T = j)
def goodJ (g : GrD) (P : List TilD) (T : TilD) : Bool := fitJ g T && !metJ g P (nT g T)
def joinB (g : GrD) : List TilD → List TilD → Bool
  | _, [] => true
  | P, T :: R => goodJ g P T && joinB g (P ++ [T]) R
def joinOK (g : GrD) (L : List TilD) : Bool := joinB g [] L && decide ((L.length : Int) = gridA g * gridD g)
theorem joinB_step (g : GrD) (L : List TilD) (k : Nat) (T : TilD) (h : L[k]? = some T) : joinB g (L.take k) (L.drop k) = (goodJ g (L.take k) T && joinB g (L.take (k + 1)) (L.drop (k + 1))) := by
  obtain ⟨hk, rfl⟩ := List.getElem?_eq_some_iff.1 h
  rw [List.drop_eq_getElem_cons hk, joinB, List.take_add_one, h]; rfl
structure PInv (g : GrD) (P : List TilD) : Prop where
  fit : ∀ U ∈ P, fitJ g U = true
  nd : (P.map (nT g)).Nodup
theorem PInv.nil (g : GrD) : PInv g [] := ⟨by simp, by simp⟩
theorem metJ_iff (g : GrD) (L : List TilD) (j : Int) : metJ g L j = true ↔ j ∈ L.map (nT g) := by simp [metJ]
theorem PInv.step {g : GrD} {P : List TilD} {T : TilD} (h : PInv g P) (ht : goodJ g P T = true) : PInv g (P ++ [T]) := by
  simp only [goodJ, Bool.and_eq_true, Bool.not_eq_true'] at ht
  refine ⟨fun U hU => ?_, ?_⟩
  · rcases List.mem_append.1 hU with hU | hU
    · exact h.fit U hU
    · rw [List.mem_singleton.1 hU]; exact ht.1
  · rw [List.map_append, List.nodup_append]
    refine ⟨h.nd, by simp, fun a ha b hb => ?_⟩
    rw [List.map_singleton, List.mem_singleton] at hb
    subst hb
    intro e
    subst e
    have := (metJ_iff g P _).2 ha
    rw [ht.2] at this
    cases this
theorem fitJ_lies {g : GrD} (hB : GrBnd g) {T : TilD} (h : fitJ g T = true) : Lies g T ∧ 0 ≤ nT g T ∧ nT g T < gridA g * gridD g := by
  simp only [fitJ, Bool.and_eq_true, decide_eq_true_eq] at h
  obtain ⟨ht, hx1, hy1, e1, e2, e3, e4⟩ := h
  obtain ⟨v1, v2, v3, v4, v5, v6, v7⟩ := mayB_bounds (tileB_may ht)
  have hxy : 0 ≤ T.x ∧ 0 ≤ T.y := by simp [tileB] at ht; omega
  have hn : 0 ≤ nT g T ∧ nT g T < gridA g * gridD g := at_bnd hB (x := T.x) (y := T.y) (by simp [inG]; omega)
  obtain ⟨r1, r2, r3, r4⟩ := rect_in hB hn.1 hn.2
  rw [e1, e3] at r2
  rw [e2, e4] at r4
  exact ⟨⟨hxy.1, r2, hxy.2, r4, v1, v3, v5⟩, hn⟩
theorem inT_at {g : GrD} (hB : GrBnd g) {T : TilD} (h : fitJ g T = true) {x y : Int} (x0 : 0 ≤ x) (x1 : x < g.across) (y0 : 0 ≤ y) (y1 : y < g.down) : inT T x y = true ↔ atN g x y = nT g T := by
  simp only [fitJ, Bool.and_eq_true, decide_eq_true_eq] at h
  obtain ⟨-, -, -, e1, e2, e3, e4⟩ := h
  have := in_rect hB x y (nT g T) x0 x1 y0 y1
  rw [e1, e2, e3, e4] at this
  exact inT_iff.trans this
theorem join_no {g : GrD} (hB : GrBnd g) {P : List TilD} {T : TilD} (hP : PInv g P) (ht : goodJ g P T = true) : ∀ i, i < (g.across * g.down).toNat → inT T ((i : Int) % g.across) ((i : Int) / g.across) = true → P.find? (fun U => inT U ((i : Int) % g.across) ((i : Int) / g.across)) = none := by
  intro i hi hin
  simp only [goodJ, Bool.and_eq_true, Bool.not_eq_true'] at ht
  obtain ⟨x0, x1, y0, y1⟩ := cell_in hB hi
  have e := (inT_at hB ht.1 x0 x1 y0 y1).1 hin
  rw [List.find?_eq_none]
  intro U hU hUi
  have e2 := (inT_at hB (hP.fit U hU) x0 x1 y0 y1).1 hUi
  have := (metJ_iff g P (nT g T)).2 (List.mem_map.2 ⟨U, hU, by omega⟩)
  rw [ht.2] at this
  cases this
theorem nodup_le {α : Type} [BEq α] [LawfulBEq α] : ∀ (l m : List α), l.Nodup → (∀ x ∈ l, x ∈ m) → l.length ≤ m.length
  | [], m, _, _ => by simp
  | a :: l, m, hn, hs => by
    have hn := List.nodup_cons.1 hn
    have ha := hs a (by simp)
    have h1 := nodup_le l (m.erase a) hn.2 fun x hx => (List.mem_erase_of_ne (fun e => hn.1 (by rw [← e]; exact hx))).2 (hs x (by simp [hx]))
    rw [List.length_erase_of_mem ha] at h1
    have := List.length_pos_of_mem ha
    rw [List.length_cons]
    omega
theorem join_all {g : GrD} (hB : GrBnd g) {L : List TilD} (h : PInv g L) {N : Nat} (hN : (N : Int) = gridA g * gridD g) : (∀ j : Nat, j < N → metJ g L j = true) ↔ (L.length : Int) = gridA g * gridD g := by
  have hr : ∀ U ∈ L, 0 ≤ nT g U ∧ nT g U < N := fun U hU => by have := (fitJ_lies hB (h.fit U hU)).2; omega
  have hle := nodup_le (L.map (nT g)) ((List.range N).map fun j : Nat => (j : Int)) h.nd fun x hx => by
    obtain ⟨U, hU, rfl⟩ := List.mem_map.1 hx
    have := hr U hU
    exact List.mem_map.2 ⟨(nT g U).toNat, List.mem_range.2 (by omega), Int.toNat_of_nonneg (by omega)⟩
  simp only [List.length_map, List.length_range] at hle
  constructor
  · intro hm
    have hge := nodup_le ((List.range N).map fun j : Nat => (j : Int)) (L.map (nT g)) (List.Pairwise.map _ (fun a b hab e => hab (Int.ofNat.inj e)) List.nodup_range) fun x hx => by
      obtain ⟨j, hj, rfl⟩ := List.mem_map.1 hx
      exact (metJ_iff g L _).1 (hm j (List.mem_range.1 hj))
    simp only [List.length_map, List.length_range] at hge
    omega
  · intro hl j hj
    cases hc : metJ g L j with
    | true => rfl
    | false =>
      exfalso
      have hnot : (j : Int) ∉ L.map (nT g) := fun hm => by rw [(metJ_iff g L j).2 hm] at hc; cases hc
      have h9 := nodup_le ((j : Int) :: L.map (nT g)) ((List.range N).map fun j : Nat => (j : Int)) (List.nodup_cons.2 ⟨hnot, h.nd⟩) fun x hx => by
        rcases List.mem_cons.1 hx with rfl | hx
        · exact List.mem_map.2 ⟨j, List.mem_range.2 hj, rfl⟩
        · obtain ⟨U, hU, rfl⟩ := List.mem_map.1 hx
          have := hr U hU
          exact List.mem_map.2 ⟨(nT g U).toNat, List.mem_range.2 (by omega), Int.toNat_of_nonneg (by omega)⟩
      simp only [List.length_cons, List.length_map, List.length_range] at h9
      omega
end Go.Proofs.YtneakieigiafpaaGreatDoor

/- The memory while tiles are put together in any order; slices.Contains of any truths. -/
namespace Go.Proofs.YtneakieigiafpaaGreatDoor
open Go.RowKit

/-- What lies in the boxes while tiles are laid: the truths of what was met, the window's tile and its cells. -/
structure JG (X W : World) (mb p q N M : Nat) (a d : Int) (m : Nat → Bool) (C : List Wit) (e : TypeId) : Prop where
  met : ∀ j, j < N → W.cell? ⟨mb, j, none⟩ = some (.bool (m j))
  free : ∀ j, W.frozen? ⟨mb, j, none⟩ = false
  row : W.heap[p]? = some (.cells (witV C).toArray e (0, 0))
  q0 : W.cell? ⟨q, 0, none⟩ = some (.int .i64 0)
  q1 : W.cell? ⟨q, 1, none⟩ = some (.int .i64 0)
  q2 : W.cell? ⟨q, 2, none⟩ = some (.int .i64 a)
  q3 : W.cell? ⟨q, 3, none⟩ = some (.int .i64 d)
  q4 : W.cell? ⟨q, 4, none⟩ = some (.slice (some ⟨p, 0, none⟩) M M)
  ne : p ≠ q
  mp : mb < p
  mq : mb < q
  pl : p < W.heap.size
  ql : q < W.heap.size
  below : Below mb X W
section
variable {X W W' : World} {mb p q N M k : Nat} {a d : Int} {m : Nat → Bool} {C : List Wit} {e : TypeId}
theorem JG.of (h : JAt X W mb p q N M a d 0 C e) : JG X W mb p q N M a d (fun _ => false) C e :=
  ⟨fun j hj => by rw [h.met j hj]; simp, h.free, h.row, h.q0, h.q1, h.q2, h.q3, h.q4, h.ne, h.mp, h.mq, h.pl, h.ql, h.below⟩
theorem JG.kept (h : JG X W mb p q N M a d m C e) (hk : Kept W W') : JG X W' mb p q N M a d m C e := by
  have hm : mb < W.heap.size := Nat.lt_trans h.mp h.pl
  exact ⟨fun j hj => (hk.cells _ _ hm).trans (h.met j hj), fun j => (hk.thaw _ _ hm).trans (h.free j), (hk.block _ h.pl).trans h.row, (hk.cells _ _ h.ql).trans h.q0, (hk.cells _ _ h.ql).trans h.q1, (hk.cells _ _ h.ql).trans h.q2, (hk.cells _ _ h.ql).trans h.q3, (hk.cells _ _ h.ql).trans h.q4, h.ne, h.mp, h.mq, Nat.lt_of_lt_of_le h.pl hk.size, Nat.lt_of_lt_of_le h.ql hk.size, h.below.trans (hk.mono (by omega))⟩
theorem JG.meet (h : JG X W mb p q N M a d m C e) (hk : k < N) : JG X (W.setCell ⟨mb, k, none⟩ (.bool true)) mb p q N M a d (fun j => decide (j = k) || m j) C e := by
  have far : ∀ b o, b ≠ mb → (W.setCell ⟨mb, k, none⟩ (.bool true)).cell? ⟨b, o, none⟩ = W.cell? ⟨b, o, none⟩ := fun b o hb => World.cell?_setCell_other W ⟨mb, k, none⟩ ⟨b, o, none⟩ (.bool true) (fun e => hb (by cases e; rfl))
  have hmp := h.mp
  have hmq := h.mq
  refine ⟨fun j hj => ?_, fun j => ?_, ?_, ?_, ?_, ?_, ?_, ?_, h.ne, h.mp, h.mq, by simpa [World.setCell] using h.pl, by simpa [World.setCell] using h.ql, h.below.setCell (Nat.le_refl _) _⟩
  · by_cases e : j = k
    · subst e
      rw [World.cell?_setCell_same _ _ _ (h.met j hj)]; simp
    · rw [World.cell?_setCell_other W ⟨mb, k, none⟩ ⟨mb, j, none⟩ (.bool true) (fun h9 => e (by cases h9; rfl)), h.met j hj]
      simp [e]
  · rw [World.frozen?_setCell]; exact h.free j
  · rw [Below.heap_setCell W ⟨mb, k, none⟩ (.bool true) p (by show p ≠ mb; omega)]; exact h.row
  · rw [far q 0 (by omega)]; exact h.q0
  · rw [far q 1 (by omega)]; exact h.q1
  · rw [far q 2 (by omega)]; exact h.q2
  · rw [far q 3 (by omega)]; exact h.q3
  · rw [far q 4 (by omega)]; exact h.q4
theorem JG.lay {C' : List Wit} (h : JG X W mb p q N M a d m C e) : JG X (W.setRow p (witV C').toArray) mb p q N M a d m C' e := by
  have far : ∀ b o, b ≠ p → (W.setRow p (witV C').toArray).cell? ⟨b, o, none⟩ = W.cell? ⟨b, o, none⟩ := fun b o hb => World.cell?_of_block (a := ⟨b, o, none⟩) (heap_setRow_other W p b _ hb)
  have hmp := h.mp
  have hq := h.ne
  refine ⟨fun j hj => (far mb j (by omega)).trans (h.met j hj), fun j => (World.frozen?_of_block (a := ⟨mb, j, none⟩) (heap_setRow_other W p mb _ (by omega))).trans (h.free j), heap_setRow_same h.row _, (far q 0 hq.symm).trans h.q0, (far q 1 hq.symm).trans h.q1, (far q 2 hq.symm).trans h.q2, (far q 3 hq.symm).trans h.q3, (far q 4 hq.symm).trans h.q4, h.ne, h.mp, h.mq, by simpa [World.setRow] using h.pl, by simpa [World.setRow] using h.ql, below_setRow h.below (by omega)⟩
theorem JG.own (h : JG X W mb p q N M a d m C e) (hM : C.length = M) (hm : M ≤ maxLen) {base : Nat} (hb : base ≤ p) : Own W base 3 (.slice (some ⟨p, 0, none⟩) M M) M (witV C) := by
  have hl : (witV C).length = M * 3 := by rw [witV_length, hM]
  refine ⟨hl, .inr ⟨p, 0, M, rfl, hb, h.pl, Nat.le_refl _, hm, fun j u hu => ?_, fun j hj => ?_⟩⟩
  · rw [Nat.zero_add, cell_of_row W p j _ e (0, 0) h.row]; simpa using hu
  · rw [Nat.zero_add, cell_of_row W p j _ e (0, 0) h.row]
    refine ⟨by simp; omega, by simp [World.frozen?, h.row]⟩
theorem JG.met' {m' : Nat → Bool} (h : JG X W mb p q N M a d m C e) (hm : ∀ j, j < N → m' j = m j) : JG X W mb p q N M a d m' C e :=
  ⟨fun j hj => by rw [hm j hj]; exact h.met j hj, h.free, h.row, h.q0, h.q1, h.q2, h.q3, h.q4, h.ne, h.mp, h.mq, h.pl, h.ql, h.below⟩
end

set_option maxRecDepth 100000 in
set_option maxHeartbeats 400000 in
theorem index_any (b N : Nat) (m : Nat → Bool) (w : World) (hN : N ≤ 1000000) (h : ∀ j, j < N → w.cell? ⟨b, j, none⟩ = some (.bool (m j))) :
    Calls Tryz.prog 144 #[.slice (some ⟨b, 0, none⟩) N N, .bool false] w fun e w' => ∃ i : Int, e = .returned (.int .i64 i) ∧ (0 ≤ i ↔ ∃ j, j < N ∧ m j = false) ∧ w' = w := by
  have H := hide h
  clear h
  go_enter Tryz.func144, Tryz.ntmps144
  go_wp2
  go_loopg [5, 8] N (fun gh i5 ix wr => ∃ k : Nat, k + gh = N ∧ ix = .int .i64 k ∧ wr = w ∧ ∀ j, j < k → m j = true)
  case atStart => exact ⟨0, by omega, rfl, rfl, by omega⟩
  case round =>
    obtain ⟨k, hkg, rfl, rfl, hall⟩ := hrel
    cases gk with
    | zero =>
      have hge : ¬ (k : Int) < N := by omega
      obtain rfl : k = N := by omega
      have HA := hide hall
      clear hall
      go_wp2
      go_ret
      exact ⟨-1, rfl, ⟨fun h => absurd h (by omega), fun ⟨j, hj, hm⟩ => by rw [HA.out j hj] at hm; cases hm⟩, rfl⟩
    | succ gh =>
      have hlt : (k : Int) < N := by omega
      have c0 := H.out k (by omega)
      have HA := hide hall
      clear hall
      cases hm : m k with
      | false =>
        rw [hm] at c0
        have HM := hide hm
        clear hm
        go_wp2
        go_ret
        exact ⟨(k : Int), rfl, ⟨fun _ => ⟨k, by omega, HM.out⟩, fun _ => by omega⟩, rfl⟩
      | true =>
        rw [hm] at c0
        have HM := hide hm
        clear hm
        go_wp2
        all_goals
          go_roundg gh
          case measure => omega
          case rel => exact ⟨k + 1, by omega, by go_num, rfl, fun j hj => by
            by_cases e : j = k
            · rw [e]; exact HM.out
            · exact HA.out j (by omega)⟩

set_option maxRecDepth 100000 in
set_option maxHeartbeats 400000 in
theorem contains_any (b N : Nat) (m : Nat → Bool) (w : World) (hN : N ≤ 1000000) (h : ∀ j, j < N → w.cell? ⟨b, j, none⟩ = some (.bool (m j))) (B : Bool) (hB : B = true ↔ ∃ j, j < N ∧ m j = false) :
    Calls Tryz.prog 73 #[.slice (some ⟨b, 0, none⟩) N N, .bool false] w fun e w' => e = .returned (.bool B) ∧ w' = w := by
  have C := hide (index_any b N m w hN h)
  have HB := hide hB
  clear h hB
  go_enter Tryz.func73, Tryz.ntmps73
  go_wp2_with (go_at_call 144; refine C.out.mono ?_; rintro e w1 ⟨i, rfl, hi, rfl⟩)
  go_ret
  exact ⟨bool_ret (by have h1 := HB.out; rw [← hi] at h1; rw [Bool.eq_iff_iff, HB.out]; first | (simp only [decide_eq_true_eq]; exact hi.symm) | simp only [decide_eq_true_eq, hi]), rfl⟩
end Go.Proofs.YtneakieigiafpaaGreatDoor
