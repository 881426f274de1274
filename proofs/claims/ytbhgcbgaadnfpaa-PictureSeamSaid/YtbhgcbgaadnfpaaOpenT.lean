/- A tile, and a slice of structs, opened: what cells they have. (open_slice_fields: the block of the guide's page on structs, copied as it says.) -/
import Derived.Test.YtbhgcbgaadnfpaaTile
import Derived.Test.YtbhgcbgaadnfpaaOpenC
import Derived.Deep.Slices
import Derived.Deep.Fields
import Derived.ChangeSame
namespace Go.Proofs.Ytbhgcbgaadnfpaa
open Go.ChangeShapes Go.WideShapes Go.ChangeAt Go.RowKit Go.Joins Go.Deep

section
variable {H : Type} {enc : TypeId × Value → H} {P : Program} {w : World} {base : Nat} {spare : Nat → Bool} {held : Bool}
theorem open_slice_fields {t e : TypeId} {fs : Array Field} {fuel : Nat} {cs : List Value} {x : DataW H × List MemPlace} (ht : P.underlying t = some (.slice e)) (he : P.underlying e = some (.struct fs))
    (hone : oneCellFields P fs = true) (hC : P.cellsOf e = fs.size) (h : DataW.trod enc P w base spare held fuel t cs = some x) :
    (cs = [.slice none 0 0] ∧ x = (.nil, [])) ∨
    ∃ (a : Addr) (len cap m : Nat) (D : Nat → DataW H) (Pl : Nat → List MemPlace), cs = [.slice (some a) len cap] ∧ base ≤ a.block ∧ len ≤ cap ∧ cap ≤ maxLen ∧ m = (if spare a.block then cap else len) ∧
      x = (.slice ((List.range len).map D) ((List.range (m - len)).map fun j => D (len + j)), MemPlace.row a (m * fs.size) ++ (List.range m).flatMap Pl) ∧
      ∀ i, i < m → ∃ (ys : List (DataW H × List MemPlace)) (n : Nat), D i = .agg (ys.map (·.1)) ∧ Pl i = ys.flatMap (·.2) ∧ ys.length = fs.size ∧
        ∀ (j : Nat) (f : Field), fs[j]? = some f → ∃ (v : Value) (y : DataW H × List MemPlace), w.cell? (a.add (i * fs.size + j)) = some v ∧ ys[j]? = some y ∧ DataW.trod enc P w base spare held n f.type [v] = some y := by
  rcases open_slice ht h with h0 | ⟨a, len, cap, m, n, D, Pl, hcs, hb, hl, hm, hmm, hx, hi⟩
  · exact .inl h0
  · refine .inr ⟨a, len, cap, m, D, Pl, hcs, hb, hl, hm, hmm, by rw [hC] at hx; exact hx, fun i him => ?_⟩
    obtain ⟨cs', hc, ht'⟩ := hi i him
    rw [hC] at hc
    obtain ⟨ys, n', hn', hy, hlen, hyl, hf⟩ := DataW.trod_struct he ht'
    obtain ⟨_, hcl, hat⟩ := World.cells?_some hc
    simp only [Prod.mk.injEq] at hy
    refine ⟨ys, n', hy.1, hy.2, hyl, fun j f hj => ?_⟩
    obtain ⟨ho, hk⟩ := hone_of hone j f hj
    have hjl : j < fs.size := (Array.getElem?_eq_some_iff.1 hj).1
    have hcell := hat j hjl
    have hv : cs'[j]? = some (cs'[j]'(by omega)) := List.getElem?_eq_getElem (by omega)
    have h1 := hf j f hj
    rw [ho, hk] at h1
    have hone' : (cs'.drop j).take 1 = [cs'[j]'(by omega)] := by
      rw [List.drop_eq_getElem_cons (by omega)]
      rfl
    rw [hone'] at h1
    have hys : ys[j]? = some (ys[j]'(by omega)) := List.getElem?_eq_getElem (by omega)
    refine ⟨_, _, ?_, hys, h1.trans hys⟩
    rw [← Go.Deep.add_add, hcell, hv]

end

theorem list_of {α : Type} {P : Nat → α → Prop} : ∀ n, (∀ i, i < n → ∃ x, P i x) → ∃ l : List α, l.length = n ∧ ∀ i x, l[i]? = some x → P i x
  | 0, _ => ⟨[], rfl, fun i x h => by simp at h⟩
  | n + 1, h => by
    obtain ⟨l, hl, hp⟩ := list_of n (fun i hi => h i (by omega))
    obtain ⟨x, hx⟩ := h n (by omega)
    refine ⟨l ++ [x], by simp [hl], fun i y hy => ?_⟩
    by_cases hi : i < l.length
    · rw [List.getElem?_append_left hi] at hy; exact hp i y hy
    · rw [List.getElem?_append_right (by omega)] at hy
      have hin : i = n := by
        have := (List.getElem?_eq_some_iff.1 hy).1
        simp at this; omega
      subst hin
      rw [show i - l.length = 0 by omega] at hy
      simp at hy; subst hy; exact hx
theorem wits_row {W : World} {b : Nat} : ∀ (l : List Wit) (off : Nat), (∀ i x, l[i]? = some x → W.cell? ⟨b, off + i * 3, none⟩ = some (.int .u8 x.t) ∧ W.cell? ⟨b, off + i * 3 + 1, none⟩ = some (.int .i64 x.s) ∧ W.cell? ⟨b, off + i * 3 + 2, none⟩ = some (.int .i64 x.r)) →
    ∀ k u, (witV l)[k]? = some u → W.cell? ⟨b, off + k, none⟩ = some u
  | [], off, _, k, u, h => by simp [witV] at h
  | x :: l, off, hc, k, u, h => by
    have h0 := hc 0 x rfl
    simp only [Nat.zero_mul, Nat.add_zero] at h0
    match k, h with
    | 0, h => simp [witV] at h; subst h; exact h0.1
    | 1, h => simp [witV] at h; subst h; exact h0.2.1
    | 2, h => simp [witV] at h; subst h; exact h0.2.2
    | k + 3, h =>
      have := wits_row l (off + 3) (fun i y hy => by
        have := hc (i + 1) y (by simpa using hy)
        rw [show off + (i + 1) * 3 = off + 3 + i * 3 by omega] at this
        exact this) k u (by simpa [witV] using h)
      rw [show off + (k + 3) = off + 3 + k by omega]; exact this

set_option maxRecDepth 100000 in
theorem open_wits {H : Type} {enc : TypeId × Value → H} {w : World} {base : Nat} {spare : Nat → Bool} {held : Bool} {fuel : Nat} {v : Value} {x : DataW H × List MemPlace}
    (h : DataW.trod enc Try.prog w base spare held fuel 67 [v] = some x) :
    ∃ (A : Option Addr) (n c : Nat) (l : List Wit), v = .slice A n c ∧ n ≤ c ∧ c ≤ maxLen ∧ l.length = n ∧ Row w A (witV l) ∧ (∀ y ∈ l, y.ok) ∧ (n = 0 ∨ ∃ e r, x.1 = .slice e r ∧ e.length = n) := by
  rcases open_slice_fields (P := Try.prog) Try.underlying67 Try.underlying43 (by kernel_rfl) (by kernel_rfl) h with ⟨hc, -⟩ | ⟨a, n, c, m, D, Pl, hc, -, hnc, hcm, hm, hx, hi⟩
  · injection hc with hc
    exact ⟨none, 0, 0, [], hc, Nat.le_refl _, by simp [maxLen], rfl, Row.nil, fun y hy => by simp at hy, .inl rfl⟩
  · injection hc with hc
    have hnm : n ≤ m := by rw [hm]; split <;> omega
    have hw : ∀ i, i < n → ∃ y : Wit, w.cell? (a.add (i * 3)) = some (.int .u8 y.t) ∧ w.cell? (a.add (i * 3 + 1)) = some (.int .i64 y.s) ∧ w.cell? (a.add (i * 3 + 2)) = some (.int .i64 y.r) ∧ y.ok := by
      intro i hin
      obtain ⟨ys, k, -, -, -, hf⟩ := hi i (by omega)
      obtain ⟨v0, y0, c0, -, t0⟩ := hf 0 _ rfl
      obtain ⟨v1, y1, c1, -, t1⟩ := hf 1 _ rfl
      obtain ⟨v2, y2, c2, -, t2⟩ := hf 2 _ rfl
      obtain ⟨a0, e0, -, wf0⟩ := DataW.trod_int Try.underlying41 t0
      obtain ⟨a1, e1, -, wf1⟩ := DataW.trod_int Try.underlying3 t1
      obtain ⟨a2, e2, -, wf2⟩ := DataW.trod_int Try.underlying3 t2
      injection e0 with e0; injection e1 with e1; injection e2 with e2
      subst e0 e1 e2
      have b0 := bounds_u8 wf0
      have b1 := bounds_i64 wf1
      have b2 := bounds_i64 wf2
      exact ⟨⟨a0, a1, a2⟩, c0, c1, c2, b0.1, b0.2, b1.1, b1.2, b2.1, b2.2⟩
    obtain ⟨l, hl, hp⟩ := list_of n hw
    refine ⟨some a, n, c, l, hc, hnc, hcm, hl, ?_, fun y hy => ?_, .inr ⟨_, _, by rw [hx], by simp⟩⟩
    · by_cases h0 : n = 0
      · left
        rw [List.eq_nil_of_length_eq_zero (hl.trans h0)]; rfl
      · right
        obtain ⟨y, hy⟩ : ∃ y, l[0]? = some y := ⟨_, List.getElem?_eq_getElem (by omega)⟩
        have hs : a.spot = none := World.cell?_spot (hp 0 y hy).1
        have ea : ∀ k, a.add k = ⟨a.block, a.off + k, none⟩ := fun k => by cases a; simp at hs; subst hs; exact add_zero_addr _ _ _
        refine ⟨a.block, a.off, by cases a; simp at hs; subst hs; rfl, wits_row l a.off fun i z hz => ?_⟩
        obtain ⟨c0, c1, c2, -⟩ := hp i z hz
        rw [ea] at c0 c1 c2
        exact ⟨c0, by rw [Nat.add_assoc]; exact c1, by rw [Nat.add_assoc]; exact c2⟩
    · obtain ⟨i, hi'⟩ := List.getElem?_of_mem hy
      exact (hp i y hi').2.2.2

set_option maxRecDepth 100000 in
theorem open_tile {H : Type} {enc : TypeId × Value → H} {w : World} {base : Nat} {spare : Nat → Bool} {held : Bool} {r : Reach} {b0 : Nat} {v : Value} {d : DataW H} {p : List MemPlace}
    (hv : Value.okWide Try.prog w r b0 69 v) (h : DataW.Trod enc Try.prog w base spare held 69 v d p) :
    ∃ (T : TilD) (A : Option Addr) (n c : Nat), v = .agg #[.int .i64 T.x, .int .i64 T.y, .int .i64 T.a, .int .i64 T.d, .slice A n c] ∧ TilAt w T A n c ∧ (n = 0 ∨ ∃ q e s, d = .agg [q, .slice e s] ∧ e.length = n) := by
  obtain ⟨cs, rfl, hsz⟩ := okWide_struct Try.underlying69 hv
  have hC : Try.prog.cellsOf 69 = 5 := by kernel_rfl
  have hR : Try.prog.cellsOf 66 = 4 := by kernel_rfl
  have hS : Try.prog.cellsOf 67 = 1 := by kernel_rfl
  have hI : Try.prog.cellsOf 3 = 1 := by kernel_rfl
  obtain ⟨l⟩ := cs
  match l, hsz.trans hC with
  | [c0, c1, c2, c3, c4], _ =>
    obtain ⟨fuel, hf⟩ := h
    obtain ⟨y0, y1, n, hx, -, h0, h1⟩ := trod_struct2 Try.underlying69 hf
    simp only [Prod.mk.injEq] at hx
    simp only [Value.cells, hR, hS, List.drop_zero, List.take_succ_cons, List.take_zero, List.drop_succ_cons] at h0 h1
    obtain ⟨xs, k, -, -, -, hlen, hg⟩ := DataW.trod_struct Try.underlying66 h0
    obtain ⟨x0, q0⟩ : ∃ x0, xs[0]? = some x0 := ⟨_, List.getElem?_eq_getElem (by rw [hlen]; decide)⟩
    obtain ⟨x1, q1⟩ : ∃ x0, xs[1]? = some x0 := ⟨_, List.getElem?_eq_getElem (by rw [hlen]; decide)⟩
    obtain ⟨x2, q2⟩ : ∃ x0, xs[2]? = some x0 := ⟨_, List.getElem?_eq_getElem (by rw [hlen]; decide)⟩
    obtain ⟨x3, q3⟩ : ∃ x0, xs[3]? = some x0 := ⟨_, List.getElem?_eq_getElem (by rw [hlen]; decide)⟩
    have g0 := (hg 0 _ rfl).trans q0
    have g1 := (hg 1 _ rfl).trans q1
    have g2 := (hg 2 _ rfl).trans q2
    have g3 := (hg 3 _ rfl).trans q3
    simp only [List.getElem_toArray, List.getElem_cons_zero, List.getElem_cons_succ, hI, List.drop_zero, List.take_succ_cons, List.take_zero, List.drop_succ_cons] at g0 g1 g2 g3
    obtain ⟨a0, e0, -, wf0⟩ := DataW.trod_int Try.underlying3 g0
    obtain ⟨a1, e1, -, wf1⟩ := DataW.trod_int Try.underlying3 g1
    obtain ⟨a2, e2, -, wf2⟩ := DataW.trod_int Try.underlying3 g2
    obtain ⟨a3, e3, -, wf3⟩ := DataW.trod_int Try.underlying3 g3
    simp at e0 e1 e2 e3
    subst e0 e1 e2 e3
    obtain ⟨A, m, c, l, rfl, h1, h2, h3, h4, h5, h6⟩ := open_wits h1
    have b0 := bounds_i64 wf0
    have b1 := bounds_i64 wf1
    have b2 := bounds_i64 wf2
    have b3 := bounds_i64 wf3
    refine ⟨⟨a0, a1, a2, a3, l⟩, A, m, c, rfl, ⟨h3, h1, by simp [maxLen] at h2; omega, h4, h5, b0.1, b0.2, b1.1, b1.2, b2.1, b2.2, b3.1, b3.2⟩, ?_⟩
    rcases h6 with h6 | ⟨e, s, h6, h7⟩
    · exact .inl h6
    · exact .inr ⟨y0.1, e, s, by rw [← h6]; exact hx.1, h7⟩
/-- A tile's cells take no more than the form reaches. -/
theorem tile_reach {H : Type} {ts : List TypeId} {ds : List (DataW H)} (h : (DataW.weightsEach Try.prog ts ds).all (· ≤ reachBytes) = true) {j : Nat} {d : DataW H} {n : Nat} (ht : ts[j]? = some 69) (hd : ds[j]? = some d) (hx : n = 0 ∨ ∃ q e s, d = .agg [q, .slice e s] ∧ e.length = n) : n * 24 + 24 ≤ 140737488355328 := by
  rcases hx with rfl | ⟨q, e, s, rfl, rfl⟩
  · omega
  · have hb : Try.prog.bytesOf 43 = 24 := by kernel_rfl
    have := List.all_eq_true.1 h ((e.length + s.length) * Try.prog.bytesOf 43) (DataW.weights_mem_each ht hd _ (by
      simp [DataW.weights, DataW.weightsEach, Try.underlying69, Try.underlying67]))
    rw [hb] at this
    have h9 : (e.length + s.length) * 24 ≤ 140737488351232 := of_decide_eq_true this
    rw [Nat.add_mul] at h9
    omega
end Go.Proofs.Ytbhgcbgaadnfpaa
