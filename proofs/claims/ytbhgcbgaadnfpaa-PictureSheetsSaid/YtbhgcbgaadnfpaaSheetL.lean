/- Sheets: the window's size is asked by what rows and sheets ask. No program in sight. -/
import Derived.Test.YtbhgcbgaadnfpaaRSheet
namespace Go.Proofs.Ytbhgcbgaadnfpaa
open Go.RowKit

/-- Pieces of w, and what is left over. -/
theorem sum_min {l : List Int} {w A : Int} (hw : 1 ≤ w) (hA : 0 ≤ A) (h : ∀ (j : Nat) (x : Int), l[j]? = some x → x = min w (A - (j : Int) * w)) (hlt : ∀ j : Nat, j < l.length → (j : Int) * w ≤ A) : ∀ k : Nat, k ≤ l.length → sumI (l.take k) = min ((k : Int) * w) A
  | 0, _ => by simp [sumI]; omega
  | k + 1, hk => by
    have ih := sum_min hw hA h hlt k (by omega)
    obtain ⟨x, hx⟩ : ∃ x, l[k]? = some x := ⟨_, List.getElem?_eq_getElem (by omega)⟩
    have h1 := h k x hx
    have h2 := hlt k (by omega)
    have e : ((k + 1 : Nat) : Int) * w = (k : Int) * w + w := by rw [Int.natCast_add, Int.add_mul]; simp
    rw [List.take_add_one, hx, Option.toList_some, sumI_snoc, ih, e]
    omega
/-- So many pieces are just enough. -/
theorem pieces {w A : Int} (hw : 1 ≤ w) (_ : 1 ≤ A) : A ≤ (A + w - 1) / w * w ∧ ∀ j : Int, j < (A + w - 1) / w → j * w ≤ A := by
  have h1 := Int.emod_add_mul_ediv (A + w - 1) w
  have h2 := Int.emod_nonneg (A + w - 1) (show w ≠ 0 by omega)
  have h3 := Int.emod_lt_of_pos (A + w - 1) (show 0 < w by omega)
  rw [Int.mul_comm] at h1
  refine ⟨by omega, fun j hj => ?_⟩
  have h4 : (j + 1) * w ≤ (A + w - 1) / w * w := Int.mul_le_mul_of_nonneg_right (by omega) (by omega)
  rw [Int.add_mul] at h4
  omega
theorem rowsE_04 : ∀ {l : List (List PicD)}, (∀ q ∈ l, besideE q = 0 ∨ besideE q = 4) → rowsE l = 0 ∧ (∀ q ∈ l, besideE q = 0) ∨ rowsE l = 4
  | [], _ => .inl ⟨rfl, by simp⟩
  | q :: r, h => by
    have ih := rowsE_04 (l := r) fun q hq => h q (by simp [hq])
    unfold rowsE
    rcases h q (by simp) with h0 | h4
    · rw [if_neg (by simp [h0])]
      rcases ih with ⟨i1, i2⟩ | i
      · refine .inl ⟨i1, fun x hx => ?_⟩
        rcases List.mem_cons.1 hx with rfl | hx
        · exact h0
        · exact i2 x hx
      · exact .inr i
    · rw [if_pos (by omega)]; exact .inr h4
/-- A row of pictures of one height. -/
theorem beside_row {q : List PicD} {S H : Int} (hne : q ≠ []) (hm : ∀ p ∈ q, mayB p.a p.d p.g.length = true) (hS : sumA q = S) (hH : ∀ p ∈ q, p.d = H) :
    besideE q = (if sizeB S H then 0 else 4) ∧ (besideP q).a = S ∧ (besideP q).d = H ∧ (sizeB S H = true → (besideP q).may = true) := by
  cases q with
  | nil => exact absurd rfl hne
  | cons p r =>
    have hd := hH p (by simp)
    have hall : allE (p :: r) = 0 := by
      unfold allE
      have h9 : (p :: r).all PicD.may = true := List.all_eq_true.2 fun x hx => hm x hx
      rw [if_pos h9]
    refine ⟨?_, hS, hd, fun hs => ?_⟩
    · show (if allE (p :: r) = 0 then _ else _) = _
      rw [if_pos hall, if_pos (by rw [List.all_eq_true]; intro x hx; simp [hH x hx, hd]), hS, hd]
    · have hb := sizeB_bounds hs
      have h1 := besideG_length (p :: r) H.toNat (fun x hx => by
        have hx2 := mayB_bounds (hm x hx)
        have hx3 := hH x hx
        have e : (H.toNat : Int) = H := Int.toNat_of_nonneg (by omega)
        exact ⟨by omega, by rw [e, ← hx3]; exact hx2.2.2.2.2.1⟩) H.toNat (Nat.le_refl _)
      rw [Int.toNat_of_nonneg (by omega), hS] at h1
      show mayB (sumA (p :: r)) p.d (besideG (p :: r) p.d.toNat).length = true
      rw [hS, hd]
      unfold mayB
      rw [hs]
      simp
      rw [h1, Int.mul_comm]
/-- Where the pictures fit, the rows and the sheet ask what the window's size is. -/
theorem sheet_rest {g : GrD} {ps : List PicD} (hI : gridI g = 0) (hE : allE ps = 0) (hL : (ps.length : Int) = gridA g * gridD g) (hF : fitsB g ps = true) (hs : sizeB g.across g.down = false) :
    (if rowsE (sheetRows g ps) ≠ 0 then rowsE (sheetRows g ps) else belowE ((sheetRows g ps).map besideP)) = 4 := by
  obtain ⟨hB, hm⟩ := gridI_ok hI
  obtain ⟨a0, a1, d0, d1, w0, w1, h0, h1⟩ := id hB
  obtain ⟨ga0, ga1⟩ := hB.gA
  obtain ⟨gd0, gd1⟩ := hB.gD
  have pw := pieces w0 a0
  have ph := pieces h0 d0
  rw [show (g.across + g.wide - 1) / g.wide = gridA g from rfl] at pw
  rw [show (g.down + g.high - 1) / g.high = gridD g from rfl] at ph
  obtain ⟨a, ha⟩ : ∃ a : Nat, (a : Int) = gridA g := ⟨(gridA g).toNat, Int.toNat_of_nonneg (by omega)⟩
  obtain ⟨n, hn⟩ : ∃ n : Nat, (n : Int) = gridD g := ⟨(gridD g).toNat, Int.toNat_of_nonneg (by omega)⟩
  have hat : (gridA g).toNat = a := by omega
  have hnt : (gridD g).toNat = n := by omega
  have hlen : ps.length = a * n := by
    have : ((a * n : Nat) : Int) = gridA g * gridD g := by rw [Int.natCast_mul, ha, hn]
    omega
  have fit : ∀ (k : Nat) (p : PicD), ps[k]? = some p → p.a = rectW g k ∧ p.d = rectH g k ∧ mayB p.a p.d p.g.length = true := by
    intro k p hp
    have hk := (List.getElem?_eq_some_iff.1 hp).1
    have h9 := List.all_eq_true.1 hF k (by simpa using hk)
    simp [fitB, hp] at h9
    exact ⟨h9.1, h9.2, may_of_allE hE hp⟩
  -- row r
  have row : ∀ r, r < n → ∀ q, (sheetRows g ps)[r]? = some q → q ≠ [] ∧ (∀ p ∈ q, mayB p.a p.d p.g.length = true) ∧ sumA q = g.across ∧ (∀ p ∈ q, p.d = min g.high (g.down - (r : Int) * g.high)) := by
    intro r hr q hq
    have hq : q = (ps.drop (r * a)).take a := by
      unfold sheetRows at hq
      rw [List.getElem?_map, List.getElem?_range (by omega)] at hq
      simpa [hat] using hq.symm
    have hra : r * a + a ≤ a * n := by
      have : (r + 1) * a ≤ n * a := Nat.mul_le_mul_right _ hr
      rw [Nat.add_mul, Nat.mul_comm n a] at this
      omega
    have hql : q.length = a := by rw [hq, List.length_take, List.length_drop, hlen]; omega
    have hqj : ∀ (j : Nat) (p : PicD), q[j]? = some p → ps[r * a + j]? = some p ∧ j < a := by
      intro j p hp
      have hj : j < a := by have := (List.getElem?_eq_some_iff.1 hp).1; omega
      rw [hq, List.getElem?_take_of_lt hj, List.getElem?_drop] at hp
      exact ⟨hp, hj⟩
    have cast : ∀ j : Nat, ((r * a + j : Nat) : Int) = gridA g * (r : Int) + (j : Int) := fun j => by rw [Int.natCast_add, Int.natCast_mul, ha, Int.mul_comm]
    have col : ∀ j : Nat, j < a → ((r * a + j : Nat) : Int) % gridA g = j ∧ ((r * a + j : Nat) : Int) / gridA g = r := by
      intro j hj
      rw [cast]
      refine ⟨?_, ?_⟩
      · rw [Int.mul_add_emod_self_left]; exact Int.emod_eq_of_lt (by omega) (by omega)
      · rw [Int.mul_add_ediv_left _ _ (by omega), Int.ediv_eq_zero_of_lt (by omega) (by omega)]; omega
    refine ⟨fun h => by rw [h] at hql; simp at hql; omega, fun p hp => ?_, ?_, fun p hp => ?_⟩
    · obtain ⟨j, hj⟩ := List.getElem?_of_mem hp
      exact (fit _ p (hqj j p hj).1).2.2
    · have h9 := sum_min (l := q.map (·.a)) w0 (by omega) (fun j x hx => by
        rw [List.getElem?_map] at hx
        cases hp : q[j]? with
        | none => rw [hp] at hx; cases hx
        | some p =>
          rw [hp] at hx
          obtain rfl : p.a = x := by simpa using hx
          obtain ⟨h8, hj⟩ := hqj j p hp
          rw [(fit _ p h8).1, rectW, rectX, (col j hj).1]) (fun j hj => pw.2 j (by simp at hj; omega)) q.length (by simp)
      have e : (q.map (·.a)).take q.length = q.map (·.a) := List.take_of_length_le (by simp)
      rw [e, hql, ha] at h9
      unfold sumA
      omega
    · obtain ⟨j, hj⟩ := List.getElem?_of_mem hp
      obtain ⟨h8, hja⟩ := hqj j p hj
      rw [(fit _ p h8).2.1, rectH, rectY, (col j hja).2]
  have hrl : (sheetRows g ps).length = n := by simp [sheetRows, hnt]
  have each : ∀ r, r < n → ∀ q, (sheetRows g ps)[r]? = some q → besideE q = (if sizeB g.across (min g.high (g.down - (r : Int) * g.high)) then 0 else 4) ∧ (besideP q).a = g.across ∧ (besideP q).d = min g.high (g.down - (r : Int) * g.high) ∧ (besideE q = 0 → (besideP q).may = true) := by
    intro r hr q hq
    obtain ⟨h1, h2, h3, h4⟩ := row r hr q hq
    obtain ⟨e1, e2, e3, e4⟩ := beside_row h1 h2 h3 h4
    refine ⟨e1, e2, e3, fun h => e4 ?_⟩
    rw [e1] at h
    cases hz : sizeB g.across (min g.high (g.down - (r : Int) * g.high)) with
    | true => rfl
    | false => rw [hz] at h; simp at h
  rcases rowsE_04 (l := sheetRows g ps) (fun q hq => by
    obtain ⟨r, hr⟩ := List.getElem?_of_mem hq
    rw [(each r (by have := (List.getElem?_eq_some_iff.1 hr).1; omega) q hr).1]
    split
    · exact .inl rfl
    · exact .inr rfl) with ⟨hz, hq0⟩ | h4
  · rw [if_neg (by simp [hz])]
    -- the sheet
    have RSat : ∀ (r : Nat) (x : PicD), ((sheetRows g ps).map besideP)[r]? = some x → x.a = g.across ∧ x.d = min g.high (g.down - (r : Int) * g.high) ∧ x.may = true := by
      intro r x hx
      rw [List.getElem?_map] at hx
      cases hq : (sheetRows g ps)[r]? with
      | none => rw [hq] at hx; cases hx
      | some q =>
        rw [hq] at hx
        obtain rfl : besideP q = x := by simpa using hx
        obtain ⟨e1, e2, e3, e4⟩ := each r (by have := (List.getElem?_eq_some_iff.1 hq).1; omega) q hq
        exact ⟨e2, e3, e4 (hq0 q (List.mem_of_getElem? hq))⟩
    obtain ⟨RS, hRS⟩ : ∃ RS, RS = (sheetRows g ps).map besideP := ⟨_, rfl⟩
    rw [← hRS] at RSat ⊢
    have hRl : RS.length = n := by rw [hRS, List.length_map, hrl]
    have hall : RS.all PicD.may = true := List.all_eq_true.2 fun x hx => by
      obtain ⟨r, hr⟩ := List.getElem?_of_mem hx
      exact (RSat r x hr).2.2
    have hsd : sumD RS = g.down := by
      have h9 := sum_min (l := RS.map (·.d)) h0 (by omega) (fun j x hx => by
        rw [List.getElem?_map] at hx
        cases hp : RS[j]? with
        | none => rw [hp] at hx; cases hx
        | some p =>
          rw [hp] at hx
          obtain rfl : p.d = x := by simpa using hx
          exact (RSat j p hp).2.1) (fun j hj => ph.2 j (by simp at hj; omega)) RS.length (by simp)
      have e : (RS.map (·.d)).take RS.length = RS.map (·.d) := List.take_of_length_le (by simp)
      rw [e, hRl, hn] at h9
      unfold sumD
      omega
    cases RS with
    | nil => simp at hRl; omega
    | cons x r =>
      have hxa : x.a = g.across := (RSat 0 x rfl).1
      have hsame : (x :: r).all (fun q => q.a == x.a) = true := List.all_eq_true.2 fun y hy => by
        obtain ⟨k, hk⟩ := List.getElem?_of_mem hy
        simp [(RSat k y hk).1, hxa]
      have hal : allE (x :: r) = 0 := by unfold allE; rw [if_pos hall]
      show (if allE (x :: r) = 0 then _ else _) = _
      rw [if_pos hal, if_pos hsame, hsd, hxa, hs]
      rfl
  · rw [if_pos (by omega)]; exact h4
theorem sheetRE_eq (g : GrD) (ps : List PicD) : sheetRE g ps = sheetE g ps := by
  unfold sheetRE sheetE
  by_cases hI : gridI g = 0
  · by_cases hE : allE ps = 0
    · by_cases hL : (ps.length : Int) = gridA g * gridD g
      · by_cases hF : fitsB g ps = false
        · simp [hI, hE, hL, hF]
        · by_cases hs : sizeB g.across g.down = false
          · have h9 := sheet_rest hI hE hL (by simpa using hF) hs
            rw [h9]
            simp [hI, hE, hL, hF, hs]
          · simp only [hI, hE, hL, hF, hs]
            simp
      · simp [hI, hE, hL]
    · simp [hI, hE]
  · simp [hI]
end Go.Proofs.Ytbhgcbgaadnfpaa
