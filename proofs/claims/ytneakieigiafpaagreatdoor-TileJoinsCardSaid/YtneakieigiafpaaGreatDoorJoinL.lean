/- Tiles put together, cell by cell, plainly. -/
import Derived.Test.YtneakieigiafpaaGreatDoorTilX
namespace Go.Proofs.YtneakieigiafpaaGreatDoor
open Go.RowKit

theorem in_seg {A r X a i : Int} (hA : 1 ≤ A) (hX : 0 ≤ X) (hXa : X + a ≤ A) : (r * A + X ≤ i ∧ i < r * A + X + a) ↔ (i / A = r ∧ X ≤ i % A ∧ i % A < X + a) := by
  have e := Int.mul_ediv_add_emod i A
  have m0 := Int.emod_nonneg i (show A ≠ 0 by omega)
  have m1 := Int.emod_lt_of_pos i (show 0 < A by omega)
  rw [Int.mul_comm] at e
  generalize i % A = x at *
  generalize hy : i / A = y at *
  clear hy
  rcases Int.lt_trichotomy y r with h | h | h
  · have := Int.mul_le_mul_of_nonneg_right (show y + 1 ≤ r by omega) (show 0 ≤ A by omega)
    rw [Int.add_mul] at this
    constructor <;> intro q <;> omega
  · subst h
    constructor <;> intro q <;> omega
  · have := Int.mul_le_mul_of_nonneg_right (show r + 1 ≤ y by omega) (show 0 ≤ A by omega)
    rw [Int.add_mul] at this
    constructor <;> intro q <;> omega

def wit0 : Wit := ⟨0, 0, 0⟩
/-- What stands in a cell when the tiles below n are laid, and of tile n the rows below k. -/
def pickC (g : GrD) (L : List TilD) (n k : Int) (i : Nat) : Wit :=
  let x := (i : Int) % g.across
  let y := (i : Int) / g.across
  let m := atN g x y
  if m < n ∨ (m = n ∧ y < rectY g m + k) then ((L[m.toNat]?).bind fun T => T.c[((y - rectY g m) * rectW g m + (x - rectX g m)).toNat]?).getD wit0 else wit0
def joinC (g : GrD) (L : List TilD) (n k : Int) : List Wit := (List.range (g.across * g.down).toNat).map (pickC g L n k)
theorem joinC_length (g : GrD) (L : List TilD) (n k : Int) : (joinC g L n k).length = (g.across * g.down).toNat := by simp [joinC]
theorem joinC_at (g : GrD) (L : List TilD) (n k : Int) (i : Nat) : (joinC g L n k)[i]? = if i < (g.across * g.down).toNat then some (pickC g L n k i) else none := by
  simp only [joinC, List.getElem?_map]
  by_cases h : i < (g.across * g.down).toNat <;> simp [h]
theorem cell_in {g : GrD} (hB : GrBnd g) {i : Nat} (h : i < (g.across * g.down).toNat) : 0 ≤ (i : Int) % g.across ∧ (i : Int) % g.across < g.across ∧ 0 ≤ (i : Int) / g.across ∧ (i : Int) / g.across < g.down := by
  have ha := hB.a0
  refine ⟨Int.emod_nonneg _ (by omega), Int.emod_lt_of_pos _ (by omega), Int.ediv_nonneg (by omega) (by omega), Int.ediv_lt_of_lt_mul (by omega) (by rw [Int.mul_comm]; omega)⟩
/-- Every row of a tile is laid: the tile is. -/
theorem joinC_done {g : GrD} (hB : GrBnd g) (L : List TilD) (n : Int) : joinC g L n (rectH g n) = joinC g L (n + 1) 0 := by
  apply List.ext_getElem?
  intro i
  rw [joinC_at, joinC_at]
  by_cases h : i < (g.across * g.down).toNat
  · rw [if_pos h, if_pos h]
    obtain ⟨x0, x1, y0, y1⟩ := cell_in hB h
    have hr := fun m => in_rect hB ((i : Int) % g.across) ((i : Int) / g.across) m x0 x1 y0 y1
    congr 1
    unfold pickC
    simp only
    generalize hm : atN g ((i : Int) % g.across) ((i : Int) / g.across) = m at *
    have hin := (hr m).2 rfl
    by_cases h1 : m < n
    · rw [if_pos (Or.inl h1), if_pos (Or.inl (by omega))]
    · by_cases h2 : m = n
      · subst h2
        rw [if_pos (Or.inr ⟨rfl, hin.2.2.2⟩), if_pos (Or.inl (by omega))]
      · rw [if_neg (by omega), if_neg (by omega)]
  · rw [if_neg h, if_neg h]
theorem rect_in {g : GrD} (hB : GrBnd g) {n : Int} (h0 : 0 ≤ n) (_ : n < gridA g * gridD g) : 0 ≤ rectX g n ∧ rectX g n + rectW g n ≤ g.across ∧ 0 ≤ rectY g n ∧ rectY g n + rectH g n ≤ g.down := by
  have hA := hB.gA.1
  have hw := hB.w0
  have hh := hB.h0
  have m0 := Int.emod_nonneg n (show gridA g ≠ 0 by omega)
  have d0 := Int.ediv_nonneg h0 (show 0 ≤ gridA g by omega)
  have p1 := Int.mul_nonneg m0 (show 0 ≤ g.wide by omega)
  have p2 := Int.mul_nonneg d0 (show 0 ≤ g.high by omega)
  unfold rectW rectH rectX rectY
  refine ⟨p1, by omega, p2, by omega⟩
/-- One row of a tile is laid. -/
theorem joinC_splice {g : GrD} (hB : GrBnd g) (L : List TilD) {n k : Int} (h0 : 0 ≤ n) (h1 : n < gridA g * gridD g) (k0 : 0 ≤ k) (k1 : k < rectH g n) {T : TilD} (hT : L[n.toNat]? = some T) (hl : (T.c.length : Int) = rectW g n * rectH g n) (hw : 0 ≤ rectW g n) {f : Nat} (hf : (f : Int) = (rectY g n + k) * g.across + rectX g n) :
    joinC g L n (k + 1) = (joinC g L n k).take f ++ ((T.c.drop (k * rectW g n).toNat).take (rectW g n).toNat ++ (joinC g L n k).drop (f + (rectW g n).toNat)) := by
  obtain ⟨r1, r2, r3, r4⟩ := rect_in hB h0 h1
  have ha := hB.a0
  have hseg := fun i : Int => in_seg (A := g.across) (r := rectY g n + k) (X := rectX g n) (a := rectW g n) (i := i) ha r1 r2
  have hkw : 0 ≤ k * rectW g n := Int.mul_nonneg k0 hw
  have hlast : (rectY g n + k + 1) * g.across ≤ g.down * g.across := Int.mul_le_mul_of_nonneg_right (by omega) (by omega)
  rw [Int.add_mul, Int.mul_comm g.down] at hlast
  have hfl : f + (rectW g n).toNat ≤ (g.across * g.down).toNat := by omega
  have hkl : (k + 1) * rectW g n ≤ rectH g n * rectW g n := Int.mul_le_mul_of_nonneg_right (by omega) hw
  rw [Int.add_mul, Int.mul_comm (rectH g n)] at hkl
  have hsl : ((T.c.drop (k * rectW g n).toNat).take (rectW g n).toNat).length = (rectW g n).toNat := by
    rw [List.length_take, List.length_drop]; omega
  have htl : ((joinC g L n k).take f).length = f := by rw [List.length_take, joinC_length]; omega
  apply List.ext_getElem?
  intro i
  rw [joinC_at]
  have same : ∀ i : Nat, i < (g.across * g.down).toNat → ¬ (f ≤ i ∧ i < f + (rectW g n).toNat) → pickC g L n (k + 1) i = pickC g L n k i := by
    intro i hi hno
    obtain ⟨x0, x1, y0, y1⟩ := cell_in hB hi
    have hr := (in_rect hB ((i : Int) % g.across) ((i : Int) / g.across) n x0 x1 y0 y1)
    have hs := hseg i
    unfold pickC
    simp only
    generalize atN g ((i : Int) % g.across) ((i : Int) / g.across) = m at *
    by_cases c1 : m < n
    · rw [if_pos (Or.inl c1), if_pos (Or.inl c1)]
    · by_cases c2 : m = n
      · subst c2
        have hin := hr.2 rfl
        by_cases c3 : (i : Int) / g.across < rectY g m + k
        · rw [if_pos (Or.inr ⟨rfl, by omega⟩), if_pos (Or.inr ⟨rfl, by omega⟩)]
        · have : ¬ (i : Int) / g.across = rectY g m + k := fun e => hno (by have := hs.2 ⟨e, hin.1, hin.2.1⟩; omega)
          rw [if_neg (by omega), if_neg (by omega)]
      · rw [if_neg (by omega), if_neg (by omega)]
  by_cases a1 : i < f
  · rw [if_pos (by omega), List.getElem?_append_left (by rw [htl]; exact a1), List.getElem?_take_of_lt a1, joinC_at, if_pos (by omega), same i (by omega) (by omega)]
  · rw [List.getElem?_append_right (by rw [htl]; omega), htl]
    by_cases a2 : i < f + (rectW g n).toNat
    · rw [if_pos (by omega), List.getElem?_append_left (by rw [hsl]; omega), List.getElem?_take_of_lt (by omega), List.getElem?_drop]
      have hi : i < (g.across * g.down).toNat := by omega
      obtain ⟨x0, x1, y0, y1⟩ := cell_in hB hi
      obtain ⟨q1, q2, q3⟩ := (hseg i).1 (by omega)
      have hm := (in_rect hB ((i : Int) % g.across) ((i : Int) / g.across) n x0 x1 y0 y1).1 ⟨q2, q3, by omega, by omega⟩
      have e := Int.mul_ediv_add_emod (i : Int) g.across
      rw [q1, Int.mul_comm] at e
      unfold pickC
      simp only
      rw [hm, q1, if_pos (Or.inr ⟨rfl, by omega⟩), hT]
      have hix : ((rectY g n + k - rectY g n) * rectW g n + ((i : Int) % g.across - rectX g n)).toNat = (k * rectW g n).toNat + (i - f) := by
        rw [show rectY g n + k - rectY g n = k by omega]; omega
      simp only [Option.bind_some]
      rw [hix]
      have hlt : (k * rectW g n).toNat + (i - f) < T.c.length := by omega
      rw [List.getElem?_eq_getElem hlt]; rfl
    · rw [List.getElem?_append_right (by rw [hsl]; omega), hsl, List.getElem?_drop, joinC_at]
      rw [show f + (rectW g n).toNat + (i - f - (rectW g n).toNat) = i by omega]
      by_cases a3 : i < (g.across * g.down).toNat
      · rw [if_pos a3, if_pos a3, same i a3 (by omega)]
      · rw [if_neg a3, if_neg a3]
end Go.Proofs.YtneakieigiafpaaGreatDoor
