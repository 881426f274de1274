/- No seam, plainly: a sheet of the tiles' pictures is the picture of the tiles put together, pixel by pixel; what is cut out of it is the tile's picture. No program in sight. -/
import Derived.Test.YtbhgcbgaadnfpaaSheetP
import Derived.Test.YtbhgcbgaadnfpaaSheetW
import Derived.Test.YtbhgcbgaadnfpaaJoinM
namespace Go.Proofs.Ytbhgcbgaadnfpaa
open Go.RowKit

/-- Pieces one behind the other: how long they are, and where what lies. -/
theorem flat_sum {α : Type} (f : Nat → List α) (s : Nat → Nat) (h0 : s 0 = 0) : ∀ n : Nat, (∀ k, k < n → s (k + 1) = s k + (f k).length) →
    ((List.range n).flatMap f).length = s n ∧ ∀ k i, k < n → i < (f k).length → ((List.range n).flatMap f)[s k + i]? = (f k)[i]?
  | 0, _ => by simp [h0]
  | n + 1, hs => by
    obtain ⟨h1, h2⟩ := flat_sum f s h0 n (fun k hk => hs k (by omega))
    have e : (List.range (n + 1)).flatMap f = (List.range n).flatMap f ++ f n := by rw [List.range_succ, List.flatMap_append]; simp
    have mono : ∀ k, k ≤ n → ∀ j, j ≤ k → s j ≤ s k := by
      intro k
      induction k with
      | zero => intro _ j hj; rw [show j = 0 by omega]; exact Nat.le_refl _
      | succ k ih =>
        intro hk j hj
        by_cases e : j = k + 1
        · rw [e]; exact Nat.le_refl _
        · have := ih (by omega) j (by omega)
          have := hs k (by omega)
          omega
    refine ⟨by rw [e, List.length_append, h1, hs n (by omega)], fun k i hk hi => ?_⟩
    rw [e]
    by_cases hkn : k < n
    · have h3 := hs k (by omega)
      have h4 := mono n (Nat.le_refl _) (k + 1) (by omega)
      rw [List.getElem?_append_left (by omega)]
      exact h2 k i hkn hi
    · obtain rfl : k = n := by omega
      rw [List.getElem?_append_right (by omega), h1, Nat.add_sub_cancel_left]
theorem flat_range {α β : Type} (f : α → List β) : ∀ l : List α, l.flatMap f = (List.range l.length).flatMap fun j => ((l[j]?).map f).getD []
  | [] => rfl
  | x :: l => by
    rw [List.flatMap_cons, List.length_cons, List.range_succ_eq_map, List.flatMap_cons, List.flatMap_map, flat_range f l]
    simp
theorem besideG_flat (q : List PicD) : ∀ k, besideG q k = (List.range k).flatMap (rowsAt q)
  | 0 => rfl
  | k + 1 => by rw [besideG, besideG_flat q k, List.range_succ, List.flatMap_append]; simp
theorem rowOf_at (a : Nat) (g : List UInt8) (i x : Nat) (hx : x < a) : (rowOf a g i)[x]? = g[i * a + x]? := by
  rw [rowOf, List.getElem?_take_of_lt hx, List.getElem?_drop]
/-- Two rows of rows with the same pixels. -/
theorem same_pix {α : Type} {l k : List α} {a d : Nat} (ha : 0 < a) (hl : l.length = d * a) (hk : k.length = d * a) (h : ∀ x y, x < a → y < d → l[y * a + x]? = k[y * a + x]?) : l = k := by
  apply List.ext_getElem?
  intro i
  by_cases hi : i < d * a
  · have h1 := h (i % a) (i / a) (Nat.mod_lt _ ha) (Nat.div_lt_of_lt_mul (by rw [Nat.mul_comm]; exact hi))
    rw [Nat.div_add_mod'] at h1
    exact h1
  · rw [List.getElem?_eq_none (by omega), List.getElem?_eq_none (by omega)]

/-- A row of a picture that is pieces side by side. -/
theorem beside_pix {q : List PicD} {a A H : Nat} (s : Nat → Nat) (h0 : s 0 = 0) (hq : q.length = a) (hA : s a = A) (hp : ∀ (j : Nat) (p : PicD), q[j]? = some p → s (j + 1) = s j + p.a.toNat ∧ p.g.length = p.a.toNat * H) :
    (besideG q H).length = H * A ∧ ∀ (j x i : Nat) (p : PicD), q[j]? = some p → x < p.a.toNat → i < H → (besideG q H)[i * A + (s j + x)]? = p.g[i * p.a.toNat + x]? := by
  have rows : ∀ i, i < H → (rowsAt q i).length = A ∧ ∀ (j x : Nat) (p : PicD), q[j]? = some p → x < p.a.toNat → (rowsAt q i)[s j + x]? = p.g[i * p.a.toNat + x]? := by
    intro i hi
    have hf := flat_sum (fun j => ((q[j]?).map fun p => rowOf p.a.toNat p.g i).getD []) s h0 a (fun k hk => by
      obtain ⟨p, hk2⟩ : ∃ p, q[k]? = some p := ⟨_, List.getElem?_eq_getElem (by omega)⟩
      obtain ⟨h1, h2⟩ := hp k p hk2
      simp only [hk2, Option.map_some, Option.getD_some]
      rw [rowOf_length _ _ _ H h2 hi, h1])
    have e : rowsAt q i = (List.range a).flatMap fun j => ((q[j]?).map fun p => rowOf p.a.toNat p.g i).getD [] := by
      rw [rowsAt, flat_range, hq]
    rw [e]
    refine ⟨hf.1.trans hA, fun j x p hj hx => ?_⟩
    have hja : j < a := by have := (List.getElem?_eq_some_iff.1 hj).1; omega
    obtain ⟨-, h2⟩ := hp j p hj
    have h9 := hf.2 j x hja (by simp only [hj, Option.map_some, Option.getD_some]; rw [rowOf_length _ _ _ H h2 hi]; exact hx)
    rw [h9]
    simp only [hj, Option.map_some, Option.getD_some]
    exact rowOf_at _ _ _ _ hx
  have hg := flat_sum (rowsAt q) (fun i => i * A) (by simp) H (fun k hk => by rw [(rows k hk).1, Nat.add_mul, Nat.one_mul])
  rw [besideG_flat]
  refine ⟨hg.1, fun j x i p hj hx hi => ?_⟩
  have h3 := (rows i hi).2 j x p hj hx
  have hb : s j + x < (rowsAt q i).length := by
    rw [List.getElem?_eq_getElem (l := p.g)] at h3
    · exact (List.getElem?_eq_some_iff.1 h3).1
    · rw [(hp j p hj).2]
      have h5 : (i + 1) * p.a.toNat ≤ H * p.a.toNat := Nat.mul_le_mul_right _ hi
      rw [Nat.add_mul, Nat.mul_comm H] at h5
      omega
  rw [hg.2 i (s j + x) hi hb, h3]
theorem below_pix {RS : List PicD} (t : Nat → Nat) (h0 : t 0 = 0) (hp : ∀ (r : Nat) (p : PicD), RS[r]? = some p → t (r + 1) = t r + p.g.length) :
    (allG RS).length = t RS.length ∧ ∀ (r i : Nat) (p : PicD), RS[r]? = some p → i < p.g.length → (allG RS)[t r + i]? = p.g[i]? := by
  have hf := flat_sum (fun j => ((RS[j]?).map fun p => p.g).getD []) t h0 RS.length (fun k hk => by
    obtain ⟨p, hk2⟩ : ∃ p, RS[k]? = some p := ⟨_, List.getElem?_eq_getElem hk⟩
    simp only [hk2, Option.map_some, Option.getD_some]
    exact hp k p hk2)
  have e : allG RS = (List.range RS.length).flatMap fun j => ((RS[j]?).map fun p => p.g).getD [] := by rw [allG, flat_range]
  rw [e]
  refine ⟨hf.1, fun r i p hr hi => ?_⟩
  have h9 := hf.2 r i (List.getElem?_eq_some_iff.1 hr).1 (by simp only [hr, Option.map_some, Option.getD_some]; exact hi)
  rw [h9]
  simp only [hr, Option.map_some, Option.getD_some]
theorem size_less {a d H : Int} (h : sizeB a d = true) (h1 : 1 ≤ H) (h2 : H ≤ d) : sizeB a H = true := by
  obtain ⟨a1, a2, a3, a4⟩ := (sizeB_iff a d).1 h
  exact (sizeB_iff a H).2 ⟨a1, h1, a3, by omega⟩

theorem seam_sheet {g : GrD} {ps : List PicD} (hI : gridI g = 0) (hE : allE ps = 0) (hL : (ps.length : Int) = gridA g * gridD g) (hF : fitsB g ps = true) (hs : sizeB g.across g.down = true) :
    sheetE g ps = 0 ∧ (sheetP g ps).a = g.across ∧ (sheetP g ps).d = g.down ∧ (sheetP g ps).g.length = g.down.toNat * g.across.toNat ∧
    ∀ (x y : Nat), x < g.across.toNat → y < g.down.toNat → ∃ (p : PicD) (m : Nat), ps[m]? = some p ∧ (m : Int) = atN g x y ∧ (sheetP g ps).g[y * g.across.toNat + x]? = p.g[((y - rectY g m) * rectW g m + (x - rectX g m)).toNat]? := by
  obtain ⟨hB, hm⟩ := gridI_ok hI
  obtain ⟨a0, a1, d0, d1, w0, w1, h0, h1⟩ := id hB
  obtain ⟨ga0, ga1⟩ := hB.gA
  obtain ⟨gd0, gd1⟩ := hB.gD
  have pw := pieces w0 a0
  have ph := pieces h0 d0
  have pp : ∀ r : Int, r < gridD g → r * g.high + 1 ≤ g.down := fun r hr => piece_pos h0 hr
  rw [show (g.across + g.wide - 1) / g.wide = gridA g from rfl] at pw
  rw [show (g.down + g.high - 1) / g.high = gridD g from rfl] at ph
  obtain ⟨a, ha⟩ : ∃ a : Nat, (a : Int) = gridA g := ⟨(gridA g).toNat, Int.toNat_of_nonneg (by omega)⟩
  obtain ⟨n, hn⟩ : ∃ n : Nat, (n : Int) = gridD g := ⟨(gridD g).toNat, Int.toNat_of_nonneg (by omega)⟩
  have hat : (gridA g).toNat = a := by omega
  have hnt : (gridD g).toNat = n := by omega
  have hlen : ps.length = a * n := by
    have : ((a * n : Nat) : Int) = gridA g * gridD g := by rw [Int.natCast_mul, ha, hn]
    omega
  have fit : ∀ (k : Nat) (p : PicD), ps[k]? = some p → p.a = rectW g k ∧ p.d = rectH g k ∧ mayB p.a p.d p.g.length = true := by
    intro k p hp
    have hk := (List.getElem?_eq_some_iff.1 hp).1
    have h9 := List.all_eq_true.1 hF k (by simpa using hk)
    simp [fitB, hp] at h9
    exact ⟨h9.1, h9.2, may_of_allE hE hp⟩
  -- row r
  have row : ∀ r, r < n → ∀ q, (sheetRows g ps)[r]? = some q → q.length = a ∧ (∀ (j : Nat) (p : PicD), q[j]? = some p → ps[r * a + j]? = some p ∧ p.a = min g.wide (g.across - (j : Int) * g.wide) ∧ p.d = min g.high (g.down - (r : Int) * g.high) ∧ mayB p.a p.d p.g.length = true) ∧ sumA q = g.across := by
    intro r hr q hq
    have hq : q = (ps.drop (r * a)).take a := by
      unfold sheetRows at hq
      rw [List.getElem?_map, List.getElem?_range (by omega)] at hq
      simpa [hat] using hq.symm
    have hra : r * a + a ≤ a * n := by
      have : (r + 1) * a ≤ n * a := Nat.mul_le_mul_right _ hr
      rw [Nat.add_mul, Nat.mul_comm n a] at this
      omega
    have hql : q.length = a := by rw [hq, List.length_take, List.length_drop, hlen]; omega
    have hqj : ∀ (j : Nat) (p : PicD), q[j]? = some p → ps[r * a + j]? = some p ∧ j < a := by
      intro j p hp
      have hj : j < a := by have := (List.getElem?_eq_some_iff.1 hp).1; omega
      rw [hq, List.getElem?_take_of_lt hj, List.getElem?_drop] at hp
      exact ⟨hp, hj⟩
    have cast : ∀ j : Nat, ((r * a + j : Nat) : Int) = gridA g * (r : Int) + (j : Int) := fun j => by rw [Int.natCast_add, Int.natCast_mul, ha, Int.mul_comm]
    have col : ∀ j : Nat, j < a → ((r * a + j : Nat) : Int) % gridA g = j ∧ ((r * a + j : Nat) : Int) / gridA g = r := by
      intro j hj
      rw [cast]
      refine ⟨?_, ?_⟩
      · rw [Int.mul_add_emod_self_left]; exact Int.emod_eq_of_lt (by omega) (by omega)
      · rw [Int.mul_add_ediv_left _ _ (by omega), Int.ediv_eq_zero_of_lt (by omega) (by omega)]; omega
    have hall : ∀ (j : Nat) (p : PicD), q[j]? = some p → ps[r * a + j]? = some p ∧ p.a = min g.wide (g.across - (j : Int) * g.wide) ∧ p.d = min g.high (g.down - (r : Int) * g.high) ∧ mayB p.a p.d p.g.length = true := by
      intro j p hp
      obtain ⟨h8, hj⟩ := hqj j p hp
      obtain ⟨f1, f2, f3⟩ := fit _ p h8
      refine ⟨h8, ?_, ?_, f3⟩
      · rw [f1, rectW, rectX, (col j hj).1]
      · rw [f2, rectH, rectY, (col j hj).2]
    refine ⟨hql, hall, ?_⟩
    have h9 := sum_min (l := q.map (·.a)) w0 (by omega) (fun j x hx => by
      rw [List.getElem?_map] at hx
      cases hp : q[j]? with
      | none => rw [hp] at hx; cases hx
      | some p =>
        rw [hp] at hx
        obtain rfl : p.a = x := by simpa using hx
        exact (hall j p hp).2.1) (fun j hj => pw.2 j (by simp at hj; omega)) q.length (by simp)
    have e : (q.map (·.a)).take q.length = q.map (·.a) := List.take_of_length_le (by simp)
    rw [e, hql, ha] at h9
    unfold sumA
    omega
  have hrl : (sheetRows g ps).length = n := by simp [sheetRows, hnt]
  have Hr : ∀ r : Nat, r < n → 1 ≤ min g.high (g.down - (r : Int) * g.high) ∧ min g.high (g.down - (r : Int) * g.high) ≤ g.down := fun r hr => by
    have := pp r (by omega)
    have : 0 ≤ (r : Int) * g.high := Int.mul_nonneg (by omega) (by omega)
    omega
  have each : ∀ r, r < n → ∀ q, (sheetRows g ps)[r]? = some q → besideE q = 0 ∧ (besideP q).a = g.across ∧ (besideP q).d = min g.high (g.down - (r : Int) * g.high) ∧ (besideP q).may = true ∧ (besideP q).g = besideG q (min g.high (g.down - (r : Int) * g.high)).toNat := by
    intro r hr q hq
    obtain ⟨hql, hall, hsum⟩ := row r hr q hq
    have hne : q ≠ [] := fun h => by rw [h] at hql; simp at hql; omega
    obtain ⟨e1, e2, e3, e4⟩ := beside_row hne (fun p hp => by
      obtain ⟨j, hj⟩ := List.getElem?_of_mem hp
      exact (hall j p hj).2.2.2) hsum (fun p hp => by
      obtain ⟨j, hj⟩ := List.getElem?_of_mem hp
      exact (hall j p hj).2.2.1)
    have hz := size_less hs (Hr r hr).1 (Hr r hr).2
    refine ⟨by rw [e1, if_pos hz], e2, e3, e4 hz, ?_⟩
    rw [← e3]; rfl
  have hz : rowsE (sheetRows g ps) = 0 := rowsE_zero fun q hq => by
    obtain ⟨r, hr⟩ := List.getElem?_of_mem hq
    exact (each r (by have := (List.getElem?_eq_some_iff.1 hr).1; omega) q hr).1
  have RSat : ∀ (r : Nat) (x : PicD), ((sheetRows g ps).map besideP)[r]? = some x → ∃ q, (sheetRows g ps)[r]? = some q ∧ r < n ∧ x = besideP q ∧ x.a = g.across ∧ x.d = min g.high (g.down - (r : Int) * g.high) ∧ x.may = true := by
    intro r x hx
    rw [List.getElem?_map] at hx
    cases hq : (sheetRows g ps)[r]? with
    | none => rw [hq] at hx; cases hx
    | some q =>
      rw [hq] at hx
      obtain rfl : besideP q = x := by simpa using hx
      have hr : r < n := by have := (List.getElem?_eq_some_iff.1 hq).1; omega
      obtain ⟨e1, e2, e3, e4, -⟩ := each r hr q hq
      exact ⟨q, rfl, hr, rfl, e2, e3, e4⟩
  -- the rows' starts
  obtain ⟨A, hA⟩ : ∃ A : Nat, (A : Int) = g.across := ⟨g.across.toNat, Int.toNat_of_nonneg (by omega)⟩
  obtain ⟨D, hD⟩ : ∃ D : Nat, (D : Int) = g.down := ⟨g.down.toNat, Int.toNat_of_nonneg (by omega)⟩
  obtain ⟨u, hu⟩ : ∃ u : Nat, (u : Int) = g.wide := ⟨g.wide.toNat, Int.toNat_of_nonneg (by omega)⟩
  obtain ⟨v, hv⟩ : ∃ v : Nat, (v : Int) = g.high := ⟨g.high.toNat, Int.toNat_of_nonneg (by omega)⟩
  have hAt : g.across.toNat = A := by omega
  have hDt : g.down.toNat = D := by omega
  have cu : ∀ j : Nat, ((j * u : Nat) : Int) = (j : Int) * g.wide := fun j => by rw [Int.natCast_mul, hu]
  have cv : ∀ j : Nat, ((j * v : Nat) : Int) = (j : Int) * g.high := fun j => by rw [Int.natCast_mul, hv]
  have pwa : ∀ j : Nat, j < a → j * u ≤ A := fun j hj => by have := pw.2 j (by omega); have := cu j; omega
  have phr : ∀ j : Nat, j < n → j * v ≤ D := fun j hj => by have := ph.2 j (by omega); have := cv j; omega
  have gl : ∀ (r : Nat) (q : List PicD), r < n → (sheetRows g ps)[r]? = some q → (besideP q).g.length = (min v (D - r * v)) * A ∧ ∀ (j x i : Nat) (p : PicD), q[j]? = some p → x < p.a.toNat → i < min v (D - r * v) → (besideP q).g[i * A + (min (j * u) A + x)]? = p.g[i * p.a.toNat + x]? := by
    intro r q hr hq
    obtain ⟨hql, hall, -⟩ := row r hr q hq
    obtain ⟨-, -, -, -, e5⟩ := each r hr q hq
    have eH : (min g.high (g.down - (r : Int) * g.high)).toNat = min v (D - r * v) := by
      have := cv r
      have := phr r hr
      omega
    rw [e5, eH]
    have hb := beside_pix (q := q) (a := a) (A := A) (H := min v (D - r * v)) (fun j => min (j * u) A) (by simp) hql (by
      have h1 := pw.1
      have h2 := cu a
      rw [ha] at h2
      show min (a * u) A = A
      omega) (fun j p hp => by
      obtain ⟨-, b1, b2, b3⟩ := hall j p hp
      have hj : j < a := by have := (List.getElem?_eq_some_iff.1 hp).1; omega
      have h2 := cu j
      have h3 := pwa j hj
      have hbb := mayB_bounds b3
      refine ⟨?_, ?_⟩
      · show min ((j + 1) * u) A = min (j * u) A + p.a.toNat
        rw [Nat.add_mul]; omega
      · have e9 : ((p.a.toNat * (min v (D - r * v)) : Nat) : Int) = p.a * p.d := by
          rw [Int.natCast_mul, ← eH, Int.toNat_of_nonneg (by omega), Int.toNat_of_nonneg (by have := (Hr r hr).1; omega), b2]
        omega)
    exact hb
  have hbp := below_pix (RS := (sheetRows g ps).map besideP) (fun r => min (r * v) D * A) (by simp) (fun r x hx => by
    obtain ⟨q, hq, hr, rfl, -⟩ := RSat r x hx
    rw [(gl r q hr hq).1]
    have h3 := phr r hr
    show min ((r + 1) * v) D * A = min (r * v) D * A + min v (D - r * v) * A
    rw [← Nat.add_mul]
    congr 1
    rw [Nat.add_mul]
    omega)
  have hRl : ((sheetRows g ps).map besideP).length = n := by rw [List.length_map, hrl]
  have hvn : min (n * v) D = D := by
    have h1 := ph.1
    have h2 := cv n
    rw [hn] at h2
    omega
  have hsd : sumD ((sheetRows g ps).map besideP) = g.down := by
    have h9 := sum_min (l := ((sheetRows g ps).map besideP).map (·.d)) h0 (by omega) (fun j x hx => by
      rw [List.getElem?_map] at hx
      cases hp : ((sheetRows g ps).map besideP)[j]? with
      | none => rw [hp] at hx; cases hx
      | some p =>
        rw [hp] at hx
        obtain rfl : p.d = x := by simpa using hx
        obtain ⟨-, -, -, -, -, e, -⟩ := RSat j p hp
        exact e) (fun j hj => ph.2 j (by simp [hrl] at hj; omega)) n (by simp [hrl])
    have e : (((sheetRows g ps).map besideP).map (·.d)).take n = ((sheetRows g ps).map besideP).map (·.d) := List.take_of_length_le (by simp [hrl])
    rw [e, hn] at h9
    unfold sumD
    omega
  have hfirst : ∃ x r, (sheetRows g ps).map besideP = x :: r := by
    cases h : (sheetRows g ps).map besideP with
    | nil => rw [h] at hRl; simp at hRl; omega
    | cons x r => exact ⟨x, r, rfl⟩
  obtain ⟨x0, rs, hx0⟩ := hfirst
  have hxa : x0.a = g.across := by
    obtain ⟨-, -, -, -, e, -⟩ := RSat 0 x0 (by rw [hx0]; rfl)
    exact e
  refine ⟨?_, ?_, ?_, ?_, ?_⟩
  · unfold sheetE
    rw [if_neg (by simp [hI]), if_neg (by simp [hE]), if_neg (by simp [hL]), if_neg (by simp [hF]), if_neg (by simp [hs]), if_neg (by simp [hz])]
    have hall : ((sheetRows g ps).map besideP).all PicD.may = true := List.all_eq_true.2 fun x hx => by
      obtain ⟨r, hr⟩ := List.getElem?_of_mem hx
      obtain ⟨-, -, -, -, -, -, e⟩ := RSat r x hr
      exact e
    have hsame : ((sheetRows g ps).map besideP).all (fun q => q.a == x0.a) = true := List.all_eq_true.2 fun y hy => by
      obtain ⟨k, hk⟩ := List.getElem?_of_mem hy
      obtain ⟨-, -, -, -, e, -⟩ := RSat k y hk
      simp [e, hxa]
    rw [hx0] at hall hsame hsd ⊢
    have hal : allE (x0 :: rs) = 0 := by unfold allE; rw [if_pos hall]
    show (if allE (x0 :: rs) = 0 then _ else _) = _
    rw [if_pos hal, if_pos hsame, hsd, hxa, hs]
    rfl
  · unfold sheetP belowP
    rw [hx0]; exact hxa
  · exact hsd
  · show (allG ((sheetRows g ps).map besideP)).length = _
    rw [hbp.1, hRl, hvn, hAt, hDt]
  · intro x y hx hy
    rw [hAt] at hx ⊢
    rw [hDt] at hy
    have hw' : 1 ≤ u := by omega
    have hv' : 1 ≤ v := by omega
    -- the tile
    have hr : y / v < n := by
      have h1 := quo_up (x := (y : Int)) h0 (by omega) (show (y : Int) < g.down by omega)
      rw [show (g.down + g.high - 1) / g.high = gridD g from rfl, ← hn, ← hv, ← Int.natCast_ediv] at h1
      omega
    have hj : x / u < a := by
      have h1 := quo_up (x := (x : Int)) w0 (by omega) (show (x : Int) < g.across by omega)
      rw [show (g.across + g.wide - 1) / g.wide = gridA g from rfl, ← ha, ← hu, ← Int.natCast_ediv] at h1
      omega
    obtain ⟨q, hq⟩ : ∃ q, (sheetRows g ps)[y / v]? = some q := ⟨_, List.getElem?_eq_getElem (by omega)⟩
    obtain ⟨hql, hall, -⟩ := row (y / v) hr q hq
    obtain ⟨p, hp⟩ : ∃ p, q[x / u]? = some p := ⟨_, List.getElem?_eq_getElem (by omega)⟩
    obtain ⟨b1, b2, b3, b4⟩ := hall (x / u) p hp
    have hat' : ((y / v * a + x / u : Nat) : Int) = atN g x y := by
      rw [Int.natCast_add, Int.natCast_mul, Int.natCast_ediv, Int.natCast_ediv, atN, ← hv, ← hu, ha]
    have hin := (in_rect hB x y (y / v * a + x / u : Nat) (by omega) (by omega) (by omega) (by omega)).2 hat'.symm
    obtain ⟨f1, f2, f3⟩ := fit _ p b1
    refine ⟨p, y / v * a + x / u, b1, hat', ?_⟩
    have qv := Nat.div_add_mod' y v
    have mv := Nat.mod_lt y hv'
    have qu := Nat.div_add_mod' x u
    have mu := Nat.mod_lt x hw'
    have c1 := cu (x / u)
    have c2 := cv (y / v)
    have c3 := pwa (x / u) hj
    have c4 := phr (y / v) hr
    have hpa : x % u < p.a.toNat := by omega
    have hi : y % v < min v (D - y / v * v) := by omega
    obtain ⟨g1, g2⟩ := gl (y / v) q hr hq
    have h7 := g2 (x / u) (x % u) (y % v) p hp hpa hi
    have e1 : min (x / u * u) A + x % u = x := by omega
    rw [e1] at h7
    have hlt : y % v * A + x < (besideP q).g.length := by
      rw [g1]
      have h5 : (y % v + 1) * A ≤ min v (D - y / v * v) * A := Nat.mul_le_mul_right _ hi
      rw [Nat.add_mul] at h5
      omega
    have h8 := hbp.2 (y / v) (y % v * A + x) (besideP q) (by rw [List.getElem?_map, hq]; rfl) hlt
    have e2 : min (y / v * v) D * A + (y % v * A + x) = y * A + x := by
      rw [← Nat.add_assoc, ← Nat.add_mul, Nat.min_eq_left c4, qv]
    rw [e2] at h8
    show (allG ((sheetRows g ps).map besideP))[y * A + x]? = _
    rw [h8, h7]
    congr 1
    have m1 : rectX g (y / v * a + x / u : Nat) = (x / u : Nat) * g.wide := by
      rw [rectX, hat']
      have h9 := (place_is (A := gridA g) (q := (y / v : Nat)) (r := (x / u : Nat)) (n := atN g x y) ga0 (Int.natCast_nonneg _) (by rw [← ha]; exact Int.ofNat_lt.2 hj)).1 (by rw [← hat', Int.natCast_add, Int.natCast_mul, ha])
      rw [← h9.2]
    have m2 : rectY g (y / v * a + x / u : Nat) = (y / v : Nat) * g.high := by
      rw [rectY, hat']
      have h9 := (place_is (A := gridA g) (q := (y / v : Nat)) (r := (x / u : Nat)) (n := atN g x y) ga0 (Int.natCast_nonneg _) (by rw [← ha]; exact Int.ofNat_lt.2 hj)).1 (by rw [← hat', Int.natCast_add, Int.natCast_mul, ha])
      rw [← h9.1]
    rw [m1, m2, ← f1]
    have hbb := mayB_bounds b4
    have e3 : ((y : Int) - (y / v : Nat) * g.high) = (y % v : Nat) := by omega
    have e4 : ((x : Int) - (x / u : Nat) * g.wide) = (x % u : Nat) := by omega
    rw [e3, e4]
    have e5 : p.a = (p.a.toNat : Int) := (Int.toNat_of_nonneg (by omega)).symm
    rw [e5, ← Int.natCast_mul, ← Int.natCast_add, Int.toNat_natCast, Int.toNat_natCast]
end Go.Proofs.Ytbhgcbgaadnfpaa
