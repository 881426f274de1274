/- A grid of a window, opened: eleven cells. (OpenG without the tile.) -/
import Derived.Test.YtneakieigiafpaaGreatDoorGriX4
import Derived.OpenShut
import Derived.ProofKit
import Derived.Deep.Slices
import Derived.ChangeSame
namespace Go.Proofs.YtneakieigiafpaaGreatDoor
open Go.ChangeShapes Go.WideShapes Go.ChangeAt Go.WideMaps Go.WideElems Go.RowKit Go.Deep

section
variable {H : Type} {enc : TypeId × Value → H} {w : World} {base : Nat} {spare : Nat → Bool} {held : Bool}
theorem in64_of {n : Int} (h : (Lit.int IntKind.i64 n).wf = true) : in64 n := bounds_i64 h
set_option maxRecDepth 100000 in
theorem open_dyad {fuel : Nat} {cs : List Value} {x : DataW H × List MemPlace} (h : DataW.trod enc Tryz.prog w base spare held fuel 25 cs = some x) : ∃ d : DyD, d.ok ∧ cs = d.cells := by
  have hI : Tryz.prog.cellsOf 3 = 1 := by kernel_rfl
  have hS : Tryz.prog.cellsOf 23 = 1 := by kernel_rfl
  have hB : Tryz.prog.cellsOf 4 = 1 := by kernel_rfl
  have hC : Tryz.prog.cellsOf 25 = 3 := by kernel_rfl
  obtain ⟨xs, k, -, -, hl, hlen, hg⟩ := DataW.trod_struct Tryz.underlying25 h
  rw [hC] at hl
  match cs, hl with
  | [c0, c1, c2], _ =>
    obtain ⟨x0, q0⟩ : ∃ x0, xs[0]? = some x0 := ⟨_, List.getElem?_eq_getElem (by rw [hlen]; decide)⟩
    obtain ⟨x1, q1⟩ : ∃ x0, xs[1]? = some x0 := ⟨_, List.getElem?_eq_getElem (by rw [hlen]; decide)⟩
    obtain ⟨x2, q2⟩ : ∃ x0, xs[2]? = some x0 := ⟨_, List.getElem?_eq_getElem (by rw [hlen]; decide)⟩
    have g0 := (hg 0 _ rfl).trans q0
    have g1 := (hg 1 _ rfl).trans q1
    have g2 := (hg 2 _ rfl).trans q2
    simp only [List.getElem_toArray, List.getElem_cons_zero, List.getElem_cons_succ, hI, hS, hB, List.drop_zero, List.take_succ_cons, List.take_zero, List.drop_succ_cons] at g0 g1 g2
    obtain ⟨a0, e0, -⟩ := DataW.trod_bool Tryz.underlying4 g0
    obtain ⟨a1, e1, -, w1⟩ := DataW.trod_string Tryz.underlying23 g1
    obtain ⟨a2, e2, -, w2⟩ := DataW.trod_int Tryz.underlying3 g2
    injection e0 with e0; injection e1 with e1; injection e2 with e2
    subst e0 e1 e2
    exact ⟨⟨a0, a1, a2⟩, ⟨w1, (bounds_i64 w2).1, (bounds_i64 w2).2⟩, rfl⟩
set_option maxRecDepth 100000 in
theorem open_gauss {fuel : Nat} {cs : List Value} {x : DataW H × List MemPlace} (h : DataW.trod enc Tryz.prog w base spare held fuel 27 cs = some x) : ∃ p q : DyD, p.ok ∧ q.ok ∧ cs = p.cells ++ q.cells := by
  have hD : Tryz.prog.cellsOf 25 = 3 := by kernel_rfl
  have hC : Tryz.prog.cellsOf 27 = 6 := by kernel_rfl
  obtain ⟨y0, y1, n, -, hl, h0, h1⟩ := trod_struct2 Tryz.underlying27 h
  rw [hC] at hl
  simp only [hD] at h0 h1
  match cs, hl with
  | [c0, c1, c2, c3, c4, c5], _ =>
    simp only [List.drop_zero, List.take_succ_cons, List.take_zero, List.drop_succ_cons] at h0 h1
    obtain ⟨p, hp, ep⟩ := open_dyad h0
    obtain ⟨q, hq, eq⟩ := open_dyad h1
    refine ⟨p, q, hp, hq, ?_⟩
    rw [← ep, ← eq]; rfl
set_option maxRecDepth 100000 in
theorem open_window {fuel : Nat} {cs : List Value} {x : DataW H × List MemPlace} (h : DataW.trod enc Tryz.prog w base spare held fuel 29 cs = some x) : ∃ (p q : DyD) (e a d : Int), p.ok ∧ q.ok ∧ in64 e ∧ in64 a ∧ in64 d ∧ cs = p.cells ++ q.cells ++ [.int .i64 e, .int .i64 a, .int .i64 d] := by
  have hG : Tryz.prog.cellsOf 27 = 6 := by kernel_rfl
  have hI : Tryz.prog.cellsOf 3 = 1 := by kernel_rfl
  have hC : Tryz.prog.cellsOf 29 = 9 := by kernel_rfl
  obtain ⟨xs, k, -, -, hl, hlen, hg⟩ := DataW.trod_struct Tryz.underlying29 h
  rw [hC] at hl
  match cs, hl with
  | [c0, c1, c2, c3, c4, c5, c6, c7, c8], _ =>
    obtain ⟨x0, q0⟩ : ∃ x0, xs[0]? = some x0 := ⟨_, List.getElem?_eq_getElem (by rw [hlen]; decide)⟩
    obtain ⟨x1, q1⟩ : ∃ x0, xs[1]? = some x0 := ⟨_, List.getElem?_eq_getElem (by rw [hlen]; decide)⟩
    obtain ⟨x2, q2⟩ : ∃ x0, xs[2]? = some x0 := ⟨_, List.getElem?_eq_getElem (by rw [hlen]; decide)⟩
    obtain ⟨x3, q3⟩ : ∃ x0, xs[3]? = some x0 := ⟨_, List.getElem?_eq_getElem (by rw [hlen]; decide)⟩
    have g0 := (hg 0 _ rfl).trans q0
    have g1 := (hg 1 _ rfl).trans q1
    have g2 := (hg 2 _ rfl).trans q2
    have g3 := (hg 3 _ rfl).trans q3
    simp only [List.getElem_toArray, List.getElem_cons_zero, List.getElem_cons_succ, hI, hG, List.drop_zero, List.take_succ_cons, List.take_zero, List.drop_succ_cons] at g0 g1 g2 g3
    obtain ⟨p, q, hp, hq, e0⟩ := open_gauss g0
    obtain ⟨a1, e1, -, w1⟩ := DataW.trod_int Tryz.underlying3 g1
    obtain ⟨a2, e2, -, w2⟩ := DataW.trod_int Tryz.underlying3 g2
    obtain ⟨a3, e3, -, w3⟩ := DataW.trod_int Tryz.underlying3 g3
    injection e1 with e1; injection e2 with e2; injection e3 with e3
    subst e1 e2 e3
    refine ⟨p, q, a1, a2, a3, hp, hq, in64_of w1, in64_of w2, in64_of w3, ?_⟩
    rw [← e0]; rfl
set_option maxRecDepth 100000 in
theorem open_grid {r : Reach} {b0 : Nat} {v : Value} {d : DataW H} {p : List MemPlace}
    (hv : Value.okWide Tryz.prog w r b0 31 v) (h : DataW.Trod enc Tryz.prog w base spare held 31 v d p) :
    ∃ g : GrD, g.ok ∧ v = .agg #[.bool g.re.neg, .string g.re.n, .int .i64 g.re.e, .bool g.im.neg, .string g.im.n, .int .i64 g.im.e, .int .i64 g.exp, .int .i64 g.across, .int .i64 g.down, .int .i64 g.wide, .int .i64 g.high] := by
  obtain ⟨cs, rfl, hsz⟩ := okWide_struct Tryz.underlying31 hv
  have hC : Tryz.prog.cellsOf 31 = 11 := by kernel_rfl
  have hW : Tryz.prog.cellsOf 29 = 9 := by kernel_rfl
  have hI : Tryz.prog.cellsOf 3 = 1 := by kernel_rfl
  obtain ⟨l⟩ := cs
  match l, hsz.trans hC with
  | [c0, c1, c2, c3, c4, c5, c6, c7, c8, c9, c10], _ =>
    obtain ⟨fuel, hf⟩ := h
    obtain ⟨xs, k, -, -, hl, hlen, hg⟩ := DataW.trod_struct Tryz.underlying31 hf
    obtain ⟨x0, q0⟩ : ∃ x0, xs[0]? = some x0 := ⟨_, List.getElem?_eq_getElem (by rw [hlen]; decide)⟩
    obtain ⟨x1, q1⟩ : ∃ x0, xs[1]? = some x0 := ⟨_, List.getElem?_eq_getElem (by rw [hlen]; decide)⟩
    obtain ⟨x2, q2⟩ : ∃ x0, xs[2]? = some x0 := ⟨_, List.getElem?_eq_getElem (by rw [hlen]; decide)⟩
    have g0 := (hg 0 _ rfl).trans q0
    have g1 := (hg 1 _ rfl).trans q1
    have g2 := (hg 2 _ rfl).trans q2
    simp only [List.getElem_toArray, List.getElem_cons_zero, List.getElem_cons_succ, Value.cells, hI, hW, List.drop_zero, List.take_succ_cons, List.take_zero, List.drop_succ_cons] at g0 g1 g2
    obtain ⟨p, q, e, a, d, hp, hq, he, ha, hd, e0⟩ := open_window g0
    obtain ⟨a1, e1, -, w1⟩ := DataW.trod_int Tryz.underlying3 g1
    obtain ⟨a2, e2, -, w2⟩ := DataW.trod_int Tryz.underlying3 g2
    injection e1 with e1; injection e2 with e2
    subst e1 e2
    simp only [DyD.cells, List.cons_append, List.nil_append, List.cons.injEq, and_true] at e0
    obtain ⟨rfl, rfl, rfl, rfl, rfl, rfl, rfl, rfl, rfl⟩ := e0
    exact ⟨⟨p, q, e, a, d, a1, a2⟩, ⟨hp, hq, he, ha, hd, in64_of w1, in64_of w2⟩, rfl⟩
end
end Go.Proofs.YtneakieigiafpaaGreatDoor
