/- A window, a rectangle, a tile, a grid opened: their cells' kinds alone. -/
import Derived.Test.YtneakieigiafpaaGreatDoorRows
import Derived.OpenShut
import Derived.ProofKit
import Derived.Deep.Slices
import Derived.ChangeSame
namespace Go.Proofs.YtneakieigiafpaaGreatDoor
open Go.ChangeShapes Go.WideShapes Go.ChangeAt Go.WideMaps Go.WideElems Go.RowKit Go.Deep
section
variable {H : Type} {enc : TypeId × Value → H} {w : World} {base : Nat} {spare : Nat → Bool} {held : Bool}
set_option maxRecDepth 100000 in
theorem openN_dyad {fuel : Nat} {cs : List Value} {x : DataW H × List MemPlace} (h : DataW.trod enc Tryz.prog w base spare held fuel 25 cs = some x) : ∃ (a : Bool) (s : ByteArray) (e : Int), cs = [.bool a, .string s, .int .i64 e] := by
  have hI : Tryz.prog.cellsOf 3 = 1 := by kernel_rfl
  have hS : Tryz.prog.cellsOf 23 = 1 := by kernel_rfl
  have hB : Tryz.prog.cellsOf 4 = 1 := by kernel_rfl
  have hC : Tryz.prog.cellsOf 25 = 3 := by kernel_rfl
  obtain ⟨xs, k, -, -, hl, hlen, hg⟩ := DataW.trod_struct Tryz.underlying25 h
  rw [hC] at hl
  match cs, hl with
  | [c0, c1, c2], _ =>
    obtain ⟨x0, q0⟩ : ∃ x0, xs[0]? = some x0 := ⟨_, List.getElem?_eq_getElem (by rw [hlen]; decide)⟩
    obtain ⟨x1, q1⟩ : ∃ x0, xs[1]? = some x0 := ⟨_, List.getElem?_eq_getElem (by rw [hlen]; decide)⟩
    obtain ⟨x2, q2⟩ : ∃ x0, xs[2]? = some x0 := ⟨_, List.getElem?_eq_getElem (by rw [hlen]; decide)⟩
    have g0 := (hg 0 _ rfl).trans q0
    have g1 := (hg 1 _ rfl).trans q1
    have g2 := (hg 2 _ rfl).trans q2
    simp only [List.getElem_toArray, List.getElem_cons_zero, List.getElem_cons_succ, hI, hS, hB, List.drop_zero, List.take_succ_cons, List.take_zero, List.drop_succ_cons] at g0 g1 g2
    obtain ⟨a0, e0, -⟩ := DataW.trod_bool Tryz.underlying4 g0
    obtain ⟨a1, e1, -⟩ := DataW.trod_string Tryz.underlying23 g1
    obtain ⟨a2, e2, -⟩ := DataW.trod_int Tryz.underlying3 g2
    injection e0 with e0; injection e1 with e1; injection e2 with e2
    subst e0 e1 e2
    exact ⟨a0, a1, a2, rfl⟩
set_option maxRecDepth 100000 in
theorem openN_gauss {fuel : Nat} {cs : List Value} {x : DataW H × List MemPlace} (h : DataW.trod enc Tryz.prog w base spare held fuel 27 cs = some x) : ∃ (a : Bool) (s : ByteArray) (e : Int) (b : Bool) (t : ByteArray) (f : Int), cs = [.bool a, .string s, .int .i64 e, .bool b, .string t, .int .i64 f] := by
  have hD : Tryz.prog.cellsOf 25 = 3 := by kernel_rfl
  have hC : Tryz.prog.cellsOf 27 = 6 := by kernel_rfl
  obtain ⟨y0, y1, n, -, hl, h0, h1⟩ := trod_struct2 Tryz.underlying27 h
  rw [hC] at hl
  simp only [hD] at h0 h1
  match cs, hl with
  | [c0, c1, c2, c3, c4, c5], _ =>
    simp only [List.drop_zero, List.take_succ_cons, List.take_zero, List.drop_succ_cons] at h0 h1
    obtain ⟨a, s, e, e0⟩ := openN_dyad h0
    obtain ⟨b, t, f, e1⟩ := openN_dyad h1
    injection e0 with i0 e0; injection e0 with i1 e0; injection e0 with i2 e0
    injection e1 with i3 e1; injection e1 with i4 e1; injection e1 with i5 e1
    subst i0 i1 i2 i3 i4 i5
    exact ⟨a, s, e, b, t, f, rfl⟩
set_option maxRecDepth 100000 in
theorem openN_win {fuel : Nat} {cs : List Value} {x : DataW H × List MemPlace} (h : DataW.trod enc Tryz.prog w base spare held fuel 29 cs = some x) : ∃ (a : Bool) (s : ByteArray) (e : Int) (b : Bool) (t : ByteArray) (f k l m : Int), cs = [.bool a, .string s, .int .i64 e, .bool b, .string t, .int .i64 f, .int .i64 k, .int .i64 l, .int .i64 m] := by
  have hG : Tryz.prog.cellsOf 27 = 6 := by kernel_rfl
  have hI : Tryz.prog.cellsOf 3 = 1 := by kernel_rfl
  have hC : Tryz.prog.cellsOf 29 = 9 := by kernel_rfl
  obtain ⟨xs, k, -, -, hl, hlen, hg⟩ := DataW.trod_struct Tryz.underlying29 h
  rw [hC] at hl
  match cs, hl with
  | [c0, c1, c2, c3, c4, c5, c6, c7, c8], _ =>
    obtain ⟨x0, q0⟩ : ∃ x0, xs[0]? = some x0 := ⟨_, List.getElem?_eq_getElem (by rw [hlen]; decide)⟩
    obtain ⟨x1, q1⟩ : ∃ x0, xs[1]? = some x0 := ⟨_, List.getElem?_eq_getElem (by rw [hlen]; decide)⟩
    obtain ⟨x2, q2⟩ : ∃ x0, xs[2]? = some x0 := ⟨_, List.getElem?_eq_getElem (by rw [hlen]; decide)⟩
    obtain ⟨x3, q3⟩ : ∃ x0, xs[3]? = some x0 := ⟨_, List.getElem?_eq_getElem (by rw [hlen]; decide)⟩
    have g0 := (hg 0 _ rfl).trans q0
    have g1 := (hg 1 _ rfl).trans q1
    have g2 := (hg 2 _ rfl).trans q2
    have g3 := (hg 3 _ rfl).trans q3
    simp only [List.getElem_toArray, List.getElem_cons_zero, List.getElem_cons_succ, hI, hG, List.drop_zero, List.take_succ_cons, List.take_zero, List.drop_succ_cons] at g0 g1 g2 g3
    obtain ⟨a, s, e, b, t, f, e0⟩ := openN_gauss g0
    obtain ⟨a1, e1, -⟩ := DataW.trod_int Tryz.underlying3 g1
    obtain ⟨a2, e2, -⟩ := DataW.trod_int Tryz.underlying3 g2
    obtain ⟨a3, e3, -⟩ := DataW.trod_int Tryz.underlying3 g3
    injection e1 with e1; injection e2 with e2; injection e3 with e3
    injection e0 with i0 e0; injection e0 with i1 e0; injection e0 with i2 e0; injection e0 with i3 e0; injection e0 with i4 e0; injection e0 with i5 e0
    subst e1 e2 e3 i0 i1 i2 i3 i4 i5
    exact ⟨a, s, e, b, t, f, a1, a2, a3, rfl⟩
set_option maxRecDepth 100000 in
theorem openN_window {r : Reach} {b0 : Nat} {v : Value} {d : DataW H} {p : List MemPlace} (hv : Value.okWide Tryz.prog w r b0 29 v) (h : DataW.Trod enc Tryz.prog w base spare held 29 v d p) :
    ∃ (a : Bool) (s : ByteArray) (e : Int) (b : Bool) (t : ByteArray) (f k l m : Int), v = .agg #[.bool a, .string s, .int .i64 e, .bool b, .string t, .int .i64 f, .int .i64 k, .int .i64 l, .int .i64 m] := by
  obtain ⟨cs, rfl, hsz⟩ := okWide_struct Tryz.underlying29 hv
  obtain ⟨l⟩ := cs
  obtain ⟨fuel, hf⟩ := h
  obtain ⟨a, s, e, b, t, f, k, l', m, e0⟩ := openN_win hf
  have e1 : l = _ := e0
  subst e1
  exact ⟨a, s, e, b, t, f, k, l', m, rfl⟩
set_option maxRecDepth 100000 in
theorem openN_rc {fuel : Nat} {cs : List Value} {x : DataW H × List MemPlace} (h : DataW.trod enc Tryz.prog w base spare held fuel 38 cs = some x) : ∃ a b c d : Int, cs = [.int .i64 a, .int .i64 b, .int .i64 c, .int .i64 d] := by
  have hI : Tryz.prog.cellsOf 3 = 1 := by kernel_rfl
  have hC : Tryz.prog.cellsOf 38 = 4 := by kernel_rfl
  obtain ⟨xs, k, -, -, hl, hlen, hg⟩ := DataW.trod_struct Tryz.underlying38 h
  rw [hC] at hl
  match cs, hl with
  | [c0, c1, c2, c3], _ =>
    obtain ⟨x0, q0⟩ : ∃ x0, xs[0]? = some x0 := ⟨_, List.getElem?_eq_getElem (by rw [hlen]; decide)⟩
    obtain ⟨x1, q1⟩ : ∃ x0, xs[1]? = some x0 := ⟨_, List.getElem?_eq_getElem (by rw [hlen]; decide)⟩
    obtain ⟨x2, q2⟩ : ∃ x0, xs[2]? = some x0 := ⟨_, List.getElem?_eq_getElem (by rw [hlen]; decide)⟩
    obtain ⟨x3, q3⟩ : ∃ x0, xs[3]? = some x0 := ⟨_, List.getElem?_eq_getElem (by rw [hlen]; decide)⟩
    have g0 := (hg 0 _ rfl).trans q0
    have g1 := (hg 1 _ rfl).trans q1
    have g2 := (hg 2 _ rfl).trans q2
    have g3 := (hg 3 _ rfl).trans q3
    simp only [List.getElem_toArray, List.getElem_cons_zero, List.getElem_cons_succ, hI, List.drop_zero, List.take_succ_cons, List.take_zero, List.drop_succ_cons] at g0 g1 g2 g3
    obtain ⟨a0, e0, -⟩ := DataW.trod_int Tryz.underlying3 g0
    obtain ⟨a1, e1, -⟩ := DataW.trod_int Tryz.underlying3 g1
    obtain ⟨a2, e2, -⟩ := DataW.trod_int Tryz.underlying3 g2
    obtain ⟨a3, e3, -⟩ := DataW.trod_int Tryz.underlying3 g3
    injection e0 with e0; injection e1 with e1; injection e2 with e2; injection e3 with e3
    subst e0 e1 e2 e3
    exact ⟨a0, a1, a2, a3, rfl⟩
set_option maxRecDepth 100000 in
theorem openN_rect {r : Reach} {b0 : Nat} {v : Value} {d : DataW H} {p : List MemPlace} (hv : Value.okWide Tryz.prog w r b0 38 v) (h : DataW.Trod enc Tryz.prog w base spare held 38 v d p) :
    ∃ a b c d : Int, v = .agg #[.int .i64 a, .int .i64 b, .int .i64 c, .int .i64 d] := by
  obtain ⟨cs, rfl, hsz⟩ := okWide_struct Tryz.underlying38 hv
  obtain ⟨l⟩ := cs
  obtain ⟨fuel, hf⟩ := h
  obtain ⟨a, b, c, d, e0⟩ := openN_rc hf
  have e1 : l = _ := e0
  subst e1
  exact ⟨a, b, c, d, rfl⟩
set_option maxRecDepth 100000 in
theorem openN_tile {r : Reach} {b0 : Nat} {v : Value} {d : DataW H} {p : List MemPlace} (hv : Value.okWide Tryz.prog w r b0 56 v) (h : DataW.Trod enc Tryz.prog w base spare held 56 v d p) :
    ∃ (a b c d : Int) (A : Option Addr) (n k : Nat), v = .agg #[.int .i64 a, .int .i64 b, .int .i64 c, .int .i64 d, .slice A n k] := by
  obtain ⟨cs, rfl, hsz⟩ := okWide_struct Tryz.underlying56 hv
  have hC : Tryz.prog.cellsOf 56 = 5 := by kernel_rfl
  have hR : Tryz.prog.cellsOf 38 = 4 := by kernel_rfl
  have hS : Tryz.prog.cellsOf 54 = 1 := by kernel_rfl
  obtain ⟨l⟩ := cs
  match l, hsz.trans hC with
  | [c0, c1, c2, c3, c4], _ =>
    obtain ⟨fuel, hf⟩ := h
    obtain ⟨y0, y1, n, hx, -, h0, h1⟩ := trod_struct2 Tryz.underlying56 hf
    simp only [Value.cells, hR, hS, List.drop_zero, List.take_succ_cons, List.take_zero, List.drop_succ_cons] at h0 h1
    obtain ⟨a, b, c, d, e0⟩ := openN_rc h0
    injection e0 with i0 e0; injection e0 with i1 e0; injection e0 with i2 e0; injection e0 with i3 e0
    subst i0 i1 i2 i3
    rcases open_slice Tryz.underlying54 h1 with ⟨h2, -⟩ | ⟨A, len, cap, m, n', D, Pl, hcs, -⟩
    · injection h2 with h2
      subst h2
      exact ⟨a, b, c, d, none, 0, 0, rfl⟩
    · injection hcs with h2
      subst h2
      exact ⟨a, b, c, d, some A, len, cap, rfl⟩
end
end Go.Proofs.YtneakieigiafpaaGreatDoor
