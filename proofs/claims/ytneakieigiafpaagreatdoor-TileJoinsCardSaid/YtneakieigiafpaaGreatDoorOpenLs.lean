/- A slice of tiles, opened (written by gen/openls.py). -/
import Derived.Test.YtneakieigiafpaaGreatDoorOpenGr
import Derived.Deep.Slices
import Derived.Deep.Fields
import Derived.ChangeSame
import Derived.Test.YtneakieigiafpaaGreatDoorTilX
namespace Go.Proofs.YtneakieigiafpaaGreatDoor
open Go.ChangeShapes Go.WideShapes Go.ChangeAt Go.RowKit Go.Deep

section
variable {H : Type} {enc : TypeId × Value → H} {P : Program} {w : World} {base : Nat} {spare : Nat → Bool} {held : Bool}
theorem open_slice_fields {t e : TypeId} {fs : Array Field} {fuel : Nat} {cs : List Value} {x : DataW H × List MemPlace} (ht : P.underlying t = some (.slice e)) (he : P.underlying e = some (.struct fs))
    (hone : oneCellFields P fs = true) (hC : P.cellsOf e = fs.size) (h : DataW.trod enc P w base spare held fuel t cs = some x) :
    (cs = [.slice none 0 0] ∧ x = (.nil, [])) ∨
    ∃ (a : Addr) (len cap m : Nat) (D : Nat → DataW H) (Pl : Nat → List MemPlace), cs = [.slice (some a) len cap] ∧ base ≤ a.block ∧ len ≤ cap ∧ cap ≤ maxLen ∧ m = (if spare a.block then cap else len) ∧
      x = (.slice ((List.range len).map D) ((List.range (m - len)).map fun j => D (len + j)), MemPlace.row a (m * fs.size) ++ (List.range m).flatMap Pl) ∧
      ∀ i, i < m → ∃ (ys : List (DataW H × List MemPlace)) (n : Nat), D i = .agg (ys.map (·.1)) ∧ Pl i = ys.flatMap (·.2) ∧ ys.length = fs.size ∧
        ∀ (j : Nat) (f : Field), fs[j]? = some f → ∃ (v : Value) (y : DataW H × List MemPlace), w.cell? (a.add (i * fs.size + j)) = some v ∧ ys[j]? = some y ∧ DataW.trod enc P w base spare held n f.type [v] = some y := by
  rcases open_slice ht h with h0 | ⟨a, len, cap, m, n, D, Pl, hcs, hb, hl, hm, hmm, hx, hi⟩
  · exact .inl h0
  · refine .inr ⟨a, len, cap, m, D, Pl, hcs, hb, hl, hm, hmm, by rw [hC] at hx; exact hx, fun i him => ?_⟩
    obtain ⟨cs', hc, ht'⟩ := hi i him
    rw [hC] at hc
    obtain ⟨ys, n', hn', hy, hlen, hyl, hf⟩ := DataW.trod_struct he ht'
    obtain ⟨_, hcl, hat⟩ := World.cells?_some hc
    simp only [Prod.mk.injEq] at hy
    refine ⟨ys, n', hy.1, hy.2, hyl, fun j f hj => ?_⟩
    obtain ⟨ho, hk⟩ := hone_of hone j f hj
    have hjl : j < fs.size := (Array.getElem?_eq_some_iff.1 hj).1
    have hcell := hat j hjl
    have hv : cs'[j]? = some (cs'[j]'(by omega)) := List.getElem?_eq_getElem (by omega)
    have h1 := hf j f hj
    rw [ho, hk] at h1
    have hone' : (cs'.drop j).take 1 = [cs'[j]'(by omega)] := by
      rw [List.drop_eq_getElem_cons (by omega)]
      rfl
    rw [hone'] at h1
    have hys : ys[j]? = some (ys[j]'(by omega)) := List.getElem?_eq_getElem (by omega)
    refine ⟨_, _, ?_, hys, h1.trans hys⟩
    rw [← Go.Deep.add_add, hcell, hv]

end

theorem list_of {α : Type} {P : Nat → α → Prop} : ∀ n, (∀ i, i < n → ∃ x, P i x) → ∃ l : List α, l.length = n ∧ ∀ i x, l[i]? = some x → P i x
  | 0, _ => ⟨[], rfl, fun i x h => by simp at h⟩
  | n + 1, h => by
    obtain ⟨l, hl, hp⟩ := list_of n (fun i hi => h i (by omega))
    obtain ⟨x, hx⟩ := h n (by omega)
    refine ⟨l ++ [x], by simp [hl], fun i y hy => ?_⟩
    by_cases hi : i < l.length
    · rw [List.getElem?_append_left hi] at hy; exact hp i y hy
    · rw [List.getElem?_append_right (by omega)] at hy
      have hin : i = n := by
        have := (List.getElem?_eq_some_iff.1 hy).1
        simp at this; omega
      subst hin
      rw [show i - l.length = 0 by omega] at hy
      simp at hy; subst hy; exact hx
theorem wits_row {W : World} {b : Nat} : ∀ (l : List Wit) (off : Nat), (∀ i x, l[i]? = some x → W.cell? ⟨b, off + i * 3, none⟩ = some (.int .u8 x.t) ∧ W.cell? ⟨b, off + i * 3 + 1, none⟩ = some (.int .i64 x.s) ∧ W.cell? ⟨b, off + i * 3 + 2, none⟩ = some (.int .i64 x.r)) →
    ∀ k u, (witV l)[k]? = some u → W.cell? ⟨b, off + k, none⟩ = some u
  | [], off, _, k, u, h => by simp [witV] at h
  | x :: l, off, hc, k, u, h => by
    have h0 := hc 0 x rfl
    simp only [Nat.zero_mul, Nat.add_zero] at h0
    match k, h with
    | 0, h => simp [witV] at h; subst h; exact h0.1
    | 1, h => simp [witV] at h; subst h; exact h0.2.1
    | 2, h => simp [witV] at h; subst h; exact h0.2.2
    | k + 3, h =>
      have := wits_row l (off + 3) (fun i y hy => by
        have := hc (i + 1) y (by simpa using hy)
        rw [show off + (i + 1) * 3 = off + 3 + i * 3 by omega] at this
        exact this) k u (by simpa [witV] using h)
      rw [show off + (k + 3) = off + 3 + k by omega]; exact this

set_option maxRecDepth 100000 in
theorem open_wits {H : Type} {enc : TypeId × Value → H} {w : World} {base : Nat} {spare : Nat → Bool} {held : Bool} {fuel : Nat} {v : Value} {x : DataW H × List MemPlace}
    (h : DataW.trod enc Tryz.prog w base spare held fuel 54 [v] = some x) :
    ∃ (A : Option Addr) (n c : Nat) (l : List Wit), v = .slice A n c ∧ n ≤ c ∧ c ≤ maxLen ∧ l.length = n ∧ Row w A (witV l) ∧ (∀ y ∈ l, y.ok) ∧ (n = 0 ∨ ∃ e r, x.1 = .slice e r ∧ e.length = n) := by
  rcases open_slice_fields (P := Tryz.prog) Tryz.underlying54 Tryz.underlying69 (by kernel_rfl) (by kernel_rfl) h with ⟨hc, -⟩ | ⟨a, n, c, m, D, Pl, hc, -, hnc, hcm, hm, hx, hi⟩
  · injection hc with hc
    exact ⟨none, 0, 0, [], hc, Nat.le_refl _, by simp [maxLen], rfl, Row.nil, fun y hy => by simp at hy, .inl rfl⟩
  · injection hc with hc
    have hnm : n ≤ m := by rw [hm]; split <;> omega
    have hw : ∀ i, i < n → ∃ y : Wit, w.cell? (a.add (i * 3)) = some (.int .u8 y.t) ∧ w.cell? (a.add (i * 3 + 1)) = some (.int .i64 y.s) ∧ w.cell? (a.add (i * 3 + 2)) = some (.int .i64 y.r) ∧ y.ok := by
      intro i hin
      obtain ⟨ys, k, -, -, -, hf⟩ := hi i (by omega)
      obtain ⟨v0, y0, c0, -, t0⟩ := hf 0 _ rfl
      obtain ⟨v1, y1, c1, -, t1⟩ := hf 1 _ rfl
      obtain ⟨v2, y2, c2, -, t2⟩ := hf 2 _ rfl
      obtain ⟨a0, e0, -, wf0⟩ := DataW.trod_int Tryz.underlying67 t0
      obtain ⟨a1, e1, -, wf1⟩ := DataW.trod_int Tryz.underlying3 t1
      obtain ⟨a2, e2, -, wf2⟩ := DataW.trod_int Tryz.underlying3 t2
      injection e0 with e0; injection e1 with e1; injection e2 with e2
      subst e0 e1 e2
      have b0 := bounds_u8 wf0
      have b1 := bounds_i64 wf1
      have b2 := bounds_i64 wf2
      exact ⟨⟨a0, a1, a2⟩, c0, c1, c2, b0.1, b0.2, b1.1, b1.2, b2.1, b2.2⟩
    obtain ⟨l, hl, hp⟩ := list_of n hw
    refine ⟨some a, n, c, l, hc, hnc, hcm, hl, ?_, fun y hy => ?_, .inr ⟨_, _, by rw [hx], by simp⟩⟩
    · by_cases h0 : n = 0
      · left
        rw [List.eq_nil_of_length_eq_zero (hl.trans h0)]; rfl
      · right
        obtain ⟨y, hy⟩ : ∃ y, l[0]? = some y := ⟨_, List.getElem?_eq_getElem (by omega)⟩
        have hs : a.spot = none := World.cell?_spot (hp 0 y hy).1
        have ea : ∀ k, a.add k = ⟨a.block, a.off + k, none⟩ := fun k => by cases a; simp at hs; subst hs; exact add_zero_addr _ _ _
        refine ⟨a.block, a.off, by cases a; simp at hs; subst hs; rfl, wits_row l a.off fun i z hz => ?_⟩
        obtain ⟨c0, c1, c2, -⟩ := hp i z hz
        rw [ea] at c0 c1 c2
        exact ⟨c0, by rw [Nat.add_assoc]; exact c1, by rw [Nat.add_assoc]; exact c2⟩
    · obtain ⟨i, hi'⟩ := List.getElem?_of_mem hy
      exact (hp i y hi').2.2.2

set_option maxRecDepth 100000 in
theorem open_tile {H : Type} {enc : TypeId × Value → H} {w : World} {base : Nat} {spare : Nat → Bool} {held : Bool} {r : Reach} {b0 : Nat} {v : Value} {d : DataW H} {p : List MemPlace}
    (hv : Value.okWide Tryz.prog w r b0 56 v) (h : DataW.Trod enc Tryz.prog w base spare held 56 v d p) :
    ∃ (T : TilD) (A : Option Addr) (n c : Nat), v = .agg #[.int .i64 T.x, .int .i64 T.y, .int .i64 T.a, .int .i64 T.d, .slice A n c] ∧ TilAt w T A n c ∧ (n = 0 ∨ ∃ q e s, d = .agg [q, .slice e s] ∧ e.length = n) := by
  obtain ⟨cs, rfl, hsz⟩ := okWide_struct Tryz.underlying56 hv
  have hC : Tryz.prog.cellsOf 56 = 5 := by kernel_rfl
  have hR : Tryz.prog.cellsOf 38 = 4 := by kernel_rfl
  have hS : Tryz.prog.cellsOf 54 = 1 := by kernel_rfl
  have hI : Tryz.prog.cellsOf 3 = 1 := by kernel_rfl
  obtain ⟨l⟩ := cs
  match l, hsz.trans hC with
  | [c0, c1, c2, c3, c4], _ =>
    obtain ⟨fuel, hf⟩ := h
    obtain ⟨y0, y1, n, hx, -, h0, h1⟩ := trod_struct2 Tryz.underlying56 hf
    simp only [Prod.mk.injEq] at hx
    simp only [Value.cells, hR, hS, List.drop_zero, List.take_succ_cons, List.take_zero, List.drop_succ_cons] at h0 h1
    obtain ⟨xs, k, -, -, -, hlen, hg⟩ := DataW.trod_struct Tryz.underlying38 h0
    obtain ⟨x0, q0⟩ : ∃ x0, xs[0]? = some x0 := ⟨_, List.getElem?_eq_getElem (by rw [hlen]; decide)⟩
    obtain ⟨x1, q1⟩ : ∃ x0, xs[1]? = some x0 := ⟨_, List.getElem?_eq_getElem (by rw [hlen]; decide)⟩
    obtain ⟨x2, q2⟩ : ∃ x0, xs[2]? = some x0 := ⟨_, List.getElem?_eq_getElem (by rw [hlen]; decide)⟩
    obtain ⟨x3, q3⟩ : ∃ x0, xs[3]? = some x0 := ⟨_, List.getElem?_eq_getElem (by rw [hlen]; decide)⟩
    have g0 := (hg 0 _ rfl).trans q0
    have g1 := (hg 1 _ rfl).trans q1
    have g2 := (hg 2 _ rfl).trans q2
    have g3 := (hg 3 _ rfl).trans q3
    simp only [List.getElem_toArray, List.getElem_cons_zero, List.getElem_cons_succ, hI, List.drop_zero, List.take_succ_cons, List.take_zero, List.drop_succ_cons] at g0 g1 g2 g3
    obtain ⟨a0, e0, -, wf0⟩ := DataW.trod_int Tryz.underlying3 g0
    obtain ⟨a1, e1, -, wf1⟩ := DataW.trod_int Tryz.underlying3 g1
    obtain ⟨a2, e2, -, wf2⟩ := DataW.trod_int Tryz.underlying3 g2
    obtain ⟨a3, e3, -, wf3⟩ := DataW.trod_int Tryz.underlying3 g3
    simp at e0 e1 e2 e3
    subst e0 e1 e2 e3
    obtain ⟨A, m, c, l, rfl, h1, h2, h3, h4, h5, h6⟩ := open_wits h1
    have b0 := bounds_i64 wf0
    have b1 := bounds_i64 wf1
    have b2 := bounds_i64 wf2
    have b3 := bounds_i64 wf3
    refine ⟨⟨a0, a1, a2, a3, l⟩, A, m, c, rfl, ⟨h3, h1, by simp [maxLen] at h2; omega, h4, h5, b0.1, b0.2, b1.1, b1.2, b2.1, b2.2, b3.1, b3.2⟩, ?_⟩
    rcases h6 with h6 | ⟨e, s, h6, h7⟩
    · exact .inl h6
    · exact .inr ⟨y0.1, e, s, by rw [← h6]; exact hx.1, h7⟩
/-- A tile's cells take no more than the form reaches. -/
theorem tile_reach {H : Type} {ts : List TypeId} {ds : List (DataW H)} (h : (DataW.weightsEach Tryz.prog ts ds).all (· ≤ reachBytes) = true) {j : Nat} {d : DataW H} {n : Nat} (ht : ts[j]? = some 56) (hd : ds[j]? = some d) (hx : n = 0 ∨ ∃ q e s, d = .agg [q, .slice e s] ∧ e.length = n) : n * 24 + 24 ≤ 140737488355328 := by
  rcases hx with rfl | ⟨q, e, s, rfl, rfl⟩
  · omega
  · have hb : Tryz.prog.bytesOf 69 = 24 := by kernel_rfl
    have := List.all_eq_true.1 h ((e.length + s.length) * Tryz.prog.bytesOf 69) (DataW.weights_mem_each ht hd _ (by
      simp [DataW.weights, DataW.weightsEach, Tryz.underlying56, Tryz.underlying54]))
    rw [hb] at this
    have h9 : (e.length + s.length) * 24 ≤ 140737488351232 := of_decide_eq_true this
    rw [Nat.add_mul] at h9
    omega
theorem weightsAll_mem {H : Type} {P : Program} {e : TypeId} : ∀ {l : List (DataW H)} {d : DataW H} {n : Nat}, d ∈ l → n ∈ d.weights P e → n ∈ DataW.weightsAll P e l
  | x :: l, d, n, hd, hn => by
    simp only [DataW.weightsAll, List.mem_append]
    rcases List.mem_cons.1 hd with rfl | hd
    · exact .inl hn
    · exact .inr (weightsAll_mem hd hn)

set_option maxRecDepth 100000 in
theorem open_tile_cells {H : Type} {enc : TypeId × Value → H} {w : World} {base : Nat} {spare : Nat → Bool} {held : Bool} {fuel : Nat} {c0 c1 c2 c3 c4 : Value} {x : DataW H × List MemPlace}
    (hf : DataW.trod enc Tryz.prog w base spare held fuel 56 [c0, c1, c2, c3, c4] = some x) :
    ∃ (T : TilD) (A : Option Addr) (n c : Nat), c0 = .int .i64 T.x ∧ c1 = .int .i64 T.y ∧ c2 = .int .i64 T.a ∧ c3 = .int .i64 T.d ∧ c4 = .slice A n c ∧ TilAt w T A n c ∧ (n = 0 ∨ ∃ q e s, x.1 = .agg [q, .slice e s] ∧ e.length = n) := by
  have hR : Tryz.prog.cellsOf 38 = 4 := by kernel_rfl
  have hS : Tryz.prog.cellsOf 54 = 1 := by kernel_rfl
  have hI : Tryz.prog.cellsOf 3 = 1 := by kernel_rfl
  obtain ⟨y0, y1, n, hx, -, h0, h1⟩ := trod_struct2 Tryz.underlying56 hf
  simp only [hR, hS, List.drop_zero, List.take_succ_cons, List.take_zero, List.drop_succ_cons] at h0 h1
  obtain ⟨xs, k, -, -, -, hlen, hg⟩ := DataW.trod_struct Tryz.underlying38 h0
  obtain ⟨x0, q0⟩ : ∃ x0, xs[0]? = some x0 := ⟨_, List.getElem?_eq_getElem (by rw [hlen]; decide)⟩
  obtain ⟨x1, q1⟩ : ∃ x0, xs[1]? = some x0 := ⟨_, List.getElem?_eq_getElem (by rw [hlen]; decide)⟩
  obtain ⟨x2, q2⟩ : ∃ x0, xs[2]? = some x0 := ⟨_, List.getElem?_eq_getElem (by rw [hlen]; decide)⟩
  obtain ⟨x3, q3⟩ : ∃ x0, xs[3]? = some x0 := ⟨_, List.getElem?_eq_getElem (by rw [hlen]; decide)⟩
  have g0 := (hg 0 _ rfl).trans q0
  have g1 := (hg 1 _ rfl).trans q1
  have g2 := (hg 2 _ rfl).trans q2
  have g3 := (hg 3 _ rfl).trans q3
  simp only [List.getElem_toArray, List.getElem_cons_zero, List.getElem_cons_succ, hI, List.drop_zero, List.take_succ_cons, List.take_zero, List.drop_succ_cons] at g0 g1 g2 g3
  obtain ⟨a0, e0, -, wf0⟩ := DataW.trod_int Tryz.underlying3 g0
  obtain ⟨a1, e1, -, wf1⟩ := DataW.trod_int Tryz.underlying3 g1
  obtain ⟨a2, e2, -, wf2⟩ := DataW.trod_int Tryz.underlying3 g2
  obtain ⟨a3, e3, -, wf3⟩ := DataW.trod_int Tryz.underlying3 g3
  simp at e0 e1 e2 e3
  subst e0 e1 e2 e3
  obtain ⟨A, m, c, l, rfl, h1, h2, h3, h4, h5, h6⟩ := open_wits h1
  have b0 := bounds_i64 wf0
  have b1 := bounds_i64 wf1
  have b2 := bounds_i64 wf2
  have b3 := bounds_i64 wf3
  refine ⟨⟨a0, a1, a2, a3, l⟩, A, m, c, rfl, rfl, rfl, rfl, rfl, ⟨h3, h1, by simp [maxLen] at h2; omega, h4, h5, b0.1, b0.2, b1.1, b1.2, b2.1, b2.2, b3.1, b3.2⟩, ?_⟩
  rcases h6 with h6 | ⟨e, s, h6, h7⟩
  · exact .inl h6
  · exact .inr ⟨y0.1, e, s, by rw [hx, ← h6], h7⟩
theorem tils_row {W : World} {b : Nat} : ∀ (l : List TilH) (off : Nat), (∀ i t, l[i]? = some t → W.cell? ⟨b, off + i * 5, none⟩ = some (.int .i64 t.T.x) ∧ W.cell? ⟨b, off + i * 5 + 1, none⟩ = some (.int .i64 t.T.y) ∧ W.cell? ⟨b, off + i * 5 + 2, none⟩ = some (.int .i64 t.T.a) ∧ W.cell? ⟨b, off + i * 5 + 3, none⟩ = some (.int .i64 t.T.d) ∧ W.cell? ⟨b, off + i * 5 + 4, none⟩ = some (.slice t.A t.n t.c)) →
    ∀ k u, (tilV l)[k]? = some u → W.cell? ⟨b, off + k, none⟩ = some u
  | [], off, _, k, u, h => by simp [tilV] at h
  | x :: l, off, hc, k, u, h => by
    have h0 := hc 0 x rfl
    simp only [Nat.zero_mul, Nat.add_zero] at h0
    match k, h with
    | 0, h => simp [tilV] at h; subst h; exact h0.1
    | 1, h => simp [tilV] at h; subst h; exact h0.2.1
    | 2, h => simp [tilV] at h; subst h; exact h0.2.2.1
    | 3, h => simp [tilV] at h; subst h; exact h0.2.2.2.1
    | 4, h => simp [tilV] at h; subst h; exact h0.2.2.2.2
    | k + 5, h =>
      have := tils_row l (off + 5) (fun i y hy => by
        have := hc (i + 1) y (by simpa using hy)
        rw [show off + (i + 1) * 5 = off + 5 + i * 5 by omega] at this
        exact this) k u (by simpa [tilV] using h)
      rw [show off + (k + 5) = off + 5 + k by omega]; exact this

set_option maxRecDepth 100000 in
theorem open_tiles {H : Type} {enc : TypeId × Value → H} {w : World} {base : Nat} {spare : Nat → Bool} {held : Bool} {fuel : Nat} {v : Value} {x : DataW H × List MemPlace}
    (h : DataW.trod enc Tryz.prog w base spare held fuel 87 [v] = some x) (hw : ∀ n ∈ x.1.weights Tryz.prog 87, n ≤ 140737488351232) :
    ∃ (A : Option Addr) (n c : Nat) (TS : List TilH), v = .slice A n c ∧ n ≤ c ∧ c ≤ maxLen ∧ TS.length = n ∧ Tils w A TS ∧ (∀ t ∈ TS, t.n * 24 + 24 ≤ 140737488355328) ∧ n * 56 + 56 ≤ 140737488355328 := by
  rcases open_slice Tryz.underlying87 h with ⟨hc, -⟩ | ⟨a, n, c, m, k, D, Pl, hc, -, hnc, hcm, hm, hx, hi⟩
  · injection hc with hc
    exact ⟨none, 0, 0, [], hc, Nat.le_refl _, by simp [maxLen], rfl, ⟨.inl rfl, by simp⟩, by simp, by omega⟩
  · injection hc with hc
    have hC : Tryz.prog.cellsOf 56 = 5 := by kernel_rfl
    rw [hC] at hi
    have hnm : n ≤ m := by rw [hm]; split <;> omega
    have hp : ∀ i, i < n → ∃ t : TilH, (w.cell? (a.add (i * 5)) = some (.int .i64 t.T.x) ∧ w.cell? (a.add (i * 5 + 1)) = some (.int .i64 t.T.y) ∧ w.cell? (a.add (i * 5 + 2)) = some (.int .i64 t.T.a) ∧ w.cell? (a.add (i * 5 + 3)) = some (.int .i64 t.T.d) ∧ w.cell? (a.add (i * 5 + 4)) = some (.slice t.A t.n t.c) ∧ TilAt w t.T t.A t.n t.c) ∧ t.n * 24 + 24 ≤ 140737488355328 := by
      intro i hin
      obtain ⟨cs', hcs, ht⟩ := hi i (by omega)
      obtain ⟨_, hcl, hat⟩ := World.cells?_some hcs
      match cs', hcl with
      | [c0, c1, c2, c3, c4], _ =>
        obtain ⟨T, A, n', c', rfl, rfl, rfl, rfl, rfl, hT, hr⟩ := open_tile_cells ht
        have ea := fun j hj => (congrArg w.cell? (Go.Deep.add_add a (i * 5) j)).symm.trans (hat j hj)
        refine ⟨⟨T, A, n', c'⟩, ⟨ea 0 (by omega), ea 1 (by omega), ea 2 (by omega), ea 3 (by omega), ea 4 (by omega), hT⟩, ?_⟩
        show n' * 24 + 24 ≤ _
        rcases hr with rfl | ⟨q, e, s, hd, rfl⟩
        · omega
        · have hd' : DataW.agg [q, .slice e s] ∈ (List.range n).map D := List.mem_map.2 ⟨i, List.mem_range.2 hin, hd⟩
          have hb : Tryz.prog.bytesOf 69 = 24 := by kernel_rfl
          have := hw ((e.length + s.length) * Tryz.prog.bytesOf 69) (by
            rw [hx]
            simp only [DataW.weights, Tryz.underlying87, List.mem_cons, List.mem_append]
            refine .inr (.inl (weightsAll_mem hd' ?_))
            simp [DataW.weights, DataW.weightsEach, Tryz.underlying56, Tryz.underlying54])
          rw [hb, Nat.add_mul] at this
          omega
    have hnb : n * 56 + 56 ≤ 140737488355328 := by
      have hb : Tryz.prog.bytesOf 56 = 56 := by kernel_rfl
      have := hw (((List.range n).map D).length * Tryz.prog.bytesOf 56 + ((List.range (m - n)).map fun j => D (n + j)).length * Tryz.prog.bytesOf 56) (by
        rw [hx]
        simp only [DataW.weights, Tryz.underlying87, List.mem_cons, List.mem_append]
        refine .inl ?_
        rw [← Nat.add_mul])
      rw [hb] at this
      simp only [List.length_map, List.length_range] at this
      omega
    obtain ⟨l, hl, hpp⟩ := list_of n hp
    refine ⟨some a, n, c, l, hc, hnc, hcm, hl, ⟨?_, fun t ht => ?_⟩, fun t ht => ?_, hnb⟩
    · by_cases h0 : n = 0
      · left
        rw [List.eq_nil_of_length_eq_zero (hl.trans h0)]; rfl
      · right
        obtain ⟨y, hy⟩ : ∃ y, l[0]? = some y := ⟨_, List.getElem?_eq_getElem (by omega)⟩
        have hs : a.spot = none := World.cell?_spot (hpp 0 y hy).1.1
        have ea : ∀ k, a.add k = ⟨a.block, a.off + k, none⟩ := fun k => by cases a; simp at hs; subst hs; exact add_zero_addr _ _ _
        refine ⟨a.block, a.off, by cases a; simp at hs; subst hs; rfl, tils_row l a.off fun i t ht => ?_⟩
        obtain ⟨⟨q0, q1, q2, q3, q4, -⟩, -⟩ := hpp i t ht
        rw [ea] at q0 q1 q2 q3 q4
        exact ⟨q0, by rw [Nat.add_assoc]; exact q1, by rw [Nat.add_assoc]; exact q2, by rw [Nat.add_assoc]; exact q3, by rw [Nat.add_assoc]; exact q4⟩
    · obtain ⟨i, hi'⟩ := List.getElem?_of_mem ht
      exact (hpp i t hi').1.2.2.2.2.2
    · obtain ⟨i, hi'⟩ := List.getElem?_of_mem ht
      exact (hpp i t hi').2
theorem tiles_reach {H : Type} {ts : List TypeId} {ds : List (DataW H)} (h : (DataW.weightsEach Tryz.prog ts ds).all (· ≤ reachBytes) = true) {j : Nat} {d : DataW H} (ht : ts[j]? = some 87) (hd : ds[j]? = some d) : ∀ n ∈ d.weights Tryz.prog 87, n ≤ 140737488351232 := fun n hn =>
  of_decide_eq_true (List.all_eq_true.1 h n (DataW.weights_mem_each ht hd n hn))
set_option maxRecDepth 100000 in
theorem open_rect {H : Type} {enc : TypeId × Value → H} {w : World} {base : Nat} {spare : Nat → Bool} {held : Bool} {r : Reach} {b0 : Nat} {v : Value} {d : DataW H} {p : List MemPlace}
    (hv : Value.okWide Tryz.prog w r b0 38 v) (h : DataW.Trod enc Tryz.prog w base spare held 38 v d p) : ∃ x y a c : Int, v = .agg #[.int .i64 x, .int .i64 y, .int .i64 a, .int .i64 c] ∧ in64 x ∧ in64 y ∧ in64 a ∧ in64 c := by
  obtain ⟨cs, rfl, hsz⟩ := okWide_struct Tryz.underlying38 hv
  have hC : Tryz.prog.cellsOf 38 = 4 := by kernel_rfl
  have hI : Tryz.prog.cellsOf 3 = 1 := by kernel_rfl
  obtain ⟨l⟩ := cs
  match l, hsz.trans hC with
  | [c0, c1, c2, c3], _ =>
    obtain ⟨fuel, hf⟩ := h
    simp only [Value.cells] at hf
    obtain ⟨xs, k, -, -, -, hlen, hg⟩ := DataW.trod_struct Tryz.underlying38 hf
    obtain ⟨x0, q0⟩ : ∃ x0, xs[0]? = some x0 := ⟨_, List.getElem?_eq_getElem (by rw [hlen]; decide)⟩
    obtain ⟨x1, q1⟩ : ∃ x0, xs[1]? = some x0 := ⟨_, List.getElem?_eq_getElem (by rw [hlen]; decide)⟩
    obtain ⟨x2, q2⟩ : ∃ x0, xs[2]? = some x0 := ⟨_, List.getElem?_eq_getElem (by rw [hlen]; decide)⟩
    obtain ⟨x3, q3⟩ : ∃ x0, xs[3]? = some x0 := ⟨_, List.getElem?_eq_getElem (by rw [hlen]; decide)⟩
    have g0 := (hg 0 _ rfl).trans q0
    have g1 := (hg 1 _ rfl).trans q1
    have g2 := (hg 2 _ rfl).trans q2
    have g3 := (hg 3 _ rfl).trans q3
    simp only [List.getElem_toArray, List.getElem_cons_zero, List.getElem_cons_succ, hI, List.drop_zero, List.take_succ_cons, List.take_zero, List.drop_succ_cons] at g0 g1 g2 g3
    obtain ⟨a0, e0, -, wf0⟩ := DataW.trod_int Tryz.underlying3 g0
    obtain ⟨a1, e1, -, wf1⟩ := DataW.trod_int Tryz.underlying3 g1
    obtain ⟨a2, e2, -, wf2⟩ := DataW.trod_int Tryz.underlying3 g2
    obtain ⟨a3, e3, -, wf3⟩ := DataW.trod_int Tryz.underlying3 g3
    simp at e0 e1 e2 e3
    subst e0 e1 e2 e3
    exact ⟨a0, a1, a2, a3, rfl, bounds_i64 wf0, bounds_i64 wf1, bounds_i64 wf2, bounds_i64 wf3⟩
end Go.Proofs.YtneakieigiafpaaGreatDoor
