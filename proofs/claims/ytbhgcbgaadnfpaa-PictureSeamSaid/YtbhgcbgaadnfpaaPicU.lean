/- Lists of pictures: what they are in memory, what comes of them put together. -/
import Derived.Test.YtbhgcbgaadnfpaaPicS
import Derived.Test.YtbhgcbgaadnfpaaMem
namespace Go.Proofs.Ytbhgcbgaadnfpaa
open Go.RowKit

structure PicD where
  a : Int
  d : Int
  g : List UInt8

def PicD.may (p : PicD) : Bool := mayB p.a p.d p.g.length

/-- A picture's three cells. -/
structure PicAt (W : World) (p : PicD) (A : Option Addr) (n c : Nat) : Prop where
  len : p.g.length = n
  cap : n ≤ c
  max : n ≤ 9223372036854775807
  row : Row W A (bytesV p.g)
  a0 : -9223372036854775808 ≤ p.a
  a1 : p.a ≤ 9223372036854775807
  d0 : -9223372036854775808 ≤ p.d
  d1 : p.d ≤ 9223372036854775807
theorem PicAt.kept {W W' : World} {p : PicD} {A : Option Addr} {n c : Nat} (h : PicAt W p A n c) (hk : Kept W W') : PicAt W' p A n c :=
  ⟨h.len, h.cap, h.max, h.row.kept hk, h.a0, h.a1, h.d0, h.d1⟩

/-- A slice of pictures that leads to these. -/
def Pics (W : World) (A : Option Addr) (ps : List PicD) : Prop :=
  ps = [] ∨ ∃ b off, A = some ⟨b, off, none⟩ ∧ ∀ k p, ps[k]? = some p → ∃ A' n c, W.cell? ⟨b, off + k * 3, none⟩ = some (.int .i64 p.a) ∧ W.cell? ⟨b, off + k * 3 + 1, none⟩ = some (.int .i64 p.d) ∧
    W.cell? ⟨b, off + k * 3 + 2, none⟩ = some (.slice A' n c) ∧ PicAt W p A' n c
theorem Pics.kept {W W' : World} {A : Option Addr} {ps : List PicD} (h : Pics W A ps) (hk : Kept W W') : Pics W' A ps := by
  rcases h with h | ⟨b, off, hA, hc⟩
  · exact .inl h
  · refine .inr ⟨b, off, hA, fun k p hp => ?_⟩
    obtain ⟨A', n, c, h0, h1, h2, h3⟩ := hc k p hp
    exact ⟨A', n, c, (hk.cells _ _ (lt_of_cell h0)).trans h0, (hk.cells _ _ (lt_of_cell h1)).trans h1, (hk.cells _ _ (lt_of_cell h2)).trans h2, h3.kept hk⟩
theorem Pics.at_ {W : World} {A : Option Addr} {ps : List PicD} (h : Pics W A ps) {k : Nat} {p : PicD} (hp : ps[k]? = some p) :
    ∃ b off A' n c, A = some ⟨b, off, none⟩ ∧ b < W.heap.size ∧ W.cell? ⟨b, off + k * 3, none⟩ = some (.int .i64 p.a) ∧ W.cell? ⟨b, off + k * 3 + 1, none⟩ = some (.int .i64 p.d) ∧ W.cell? ⟨b, off + k * 3 + 2, none⟩ = some (.slice A' n c) ∧ PicAt W p A' n c := by
  rcases h with h | ⟨b, off, hA, hc⟩
  · subst h; simp at hp
  · obtain ⟨A', n, c, h0, h1, h2, h3⟩ := hc k p hp
    exact ⟨b, off, A', n, c, hA, lt_of_cell h0, h0, h1, h2, h3⟩

def allE (ps : List PicD) : Int := if ps.all PicD.may then 0 else 290
theorem allE_at {ps : List PicD} {k : Nat} {p : PicD} (hp : ps[k]? = some p) (hm : mayB p.a p.d p.g.length = false) : allE ps = 290 := by
  unfold allE
  rw [if_neg]
  intro h
  have := List.all_eq_true.1 h p (List.mem_of_getElem? hp)
  rw [PicD.may, hm] at this
  cases this
theorem allE_all {ps : List PicD} (h : ∀ (k : Nat) (p : PicD), ps[k]? = some p → mayB p.a p.d p.g.length = true) : allE ps = 0 := by
  unfold allE
  rw [if_pos]
  rw [List.all_eq_true]
  intro p hp
  obtain ⟨k, hk⟩ := List.getElem?_of_mem hp
  exact h k p hk
theorem may_of_allE {ps : List PicD} (h : allE ps = 0) {k : Nat} {p : PicD} (hp : ps[k]? = some p) : mayB p.a p.d p.g.length = true := by
  cases hm : mayB p.a p.d p.g.length with
  | true => rfl
  | false => rw [allE_at hp hm] at h; omega

def sumI (l : List Int) : Int := l.foldr (· + ·) 0
theorem sumI_snoc (l : List Int) (x : Int) : sumI (l ++ [x]) = sumI l + x := by
  induction l with
  | nil => simp [sumI]
  | cons y l ih => simp only [List.cons_append, sumI, List.foldr_cons] at *; omega
def sumA (ps : List PicD) : Int := sumI (ps.map (·.a))
def sumD (ps : List PicD) : Int := sumI (ps.map (·.d))
def allG (ps : List PicD) : List UInt8 := ps.flatMap (·.g)
theorem take_next {ps : List PicD} {k : Nat} {p : PicD} (hp : ps[k]? = some p) : ps.take (k + 1) = ps.take k ++ [p] := by rw [List.take_add_one, hp]; rfl
theorem sumD_next {ps : List PicD} {k : Nat} {p : PicD} (hp : ps[k]? = some p) : sumD (ps.take (k + 1)) = sumD (ps.take k) + p.d := by rw [take_next hp]; simp only [sumD, List.map_append, List.map_cons, List.map_nil, sumI_snoc]
theorem sumA_next {ps : List PicD} {k : Nat} {p : PicD} (hp : ps[k]? = some p) : sumA (ps.take (k + 1)) = sumA (ps.take k) + p.a := by rw [take_next hp]; simp only [sumA, List.map_append, List.map_cons, List.map_nil, sumI_snoc]
theorem allG_next {ps : List PicD} {k : Nat} {p : PicD} (hp : ps[k]? = some p) : allG (ps.take (k + 1)) = allG (ps.take k) ++ p.g := by rw [take_next hp]; simp [allG]
theorem sumI_nonneg (l : List Int) (h : ∀ x ∈ l, 0 ≤ x ∧ x ≤ 4194304) : 0 ≤ sumI l ∧ sumI l ≤ 4194304 * l.length := by
  induction l with
  | nil => simp [sumI]
  | cons y l ih =>
    have h1 := ih (fun x hx => h x (List.mem_cons_of_mem _ hx))
    have h2 := h y List.mem_cons_self
    simp only [sumI, List.foldr_cons, List.length_cons] at *
    omega
theorem sums_le {ps : List PicD} (h : allE ps = 0) (k : Nat) (hk : k ≤ ps.length) : (0 ≤ sumD (ps.take k) ∧ sumD (ps.take k) ≤ 4194304 * k) ∧ (0 ≤ sumA (ps.take k) ∧ sumA (ps.take k) ≤ 4194304 * k) := by
  have hm : ∀ p ∈ ps.take k, mayB p.a p.d p.g.length = true := fun p hp => by
    obtain ⟨i, hi⟩ := List.getElem?_of_mem (List.mem_of_mem_take hp)
    exact may_of_allE h hi
  have h1 := sumI_nonneg ((ps.take k).map (·.d)) (fun x hx => by
    obtain ⟨p, hp, rfl⟩ := List.mem_map.1 hx
    have := mayB_bounds (hm p hp); omega)
  have h2 := sumI_nonneg ((ps.take k).map (·.a)) (fun x hx => by
    obtain ⟨p, hp, rfl⟩ := List.mem_map.1 hx
    have := mayB_bounds (hm p hp); omega)
  simp only [List.length_map, List.length_take] at h1 h2
  rw [Nat.min_eq_left hk] at h1 h2
  exact ⟨h1, h2⟩

/-- What is left by whatever puts pictures together: the picture, in memory of its own; or nothing and the error's number. -/
def PutPost (w : World) (E : Int) (p : PicD) (e : Ending) (w' : World) : Prop :=
  if E = 0 then ∃ v, e = .returned (.tuple #[.agg #[.int .i64 p.a, .int .i64 p.d, v], .int .i64 0]) ∧ Own w' w.heap.size 1 v p.g.length (bytesV p.g) ∧ Kept w w'
  else e = .returned (.tuple #[.agg #[.int .i64 0, .int .i64 0, .slice none 0 0], .int .i64 E]) ∧ Kept w w'

theorem PutPost.err {w : World} {E : Int} {p : PicD} {w' : World} (h : E ≠ 0) (hk : Kept w w') : PutPost w E p (.returned (.tuple #[.agg #[.int .i64 0, .int .i64 0, .slice none 0 0], .int .i64 E])) w' := by
  unfold PutPost; rw [if_neg h]; exact ⟨rfl, hk⟩
theorem PutPost.ok {w : World} {p : PicD} {v : Value} {w' : World} (ho : Own w' w.heap.size 1 v p.g.length (bytesV p.g)) (hk : Kept w w') : PutPost w 0 p (.returned (.tuple #[.agg #[.int .i64 p.a, .int .i64 p.d, v], .int .i64 0])) w' := by
  unfold PutPost; rw [if_pos rfl]; exact ⟨v, rfl, ho, hk⟩

def belowE (ps : List PicD) : Int :=
  match ps with
  | [] => 2
  | p :: _ => if allE ps = 0 then (if ps.all (fun q => q.a == p.a) then (if sizeB p.a (sumD ps) then 0 else 4) else 291) else 290
def belowP (ps : List PicD) : PicD := ⟨(ps.headD ⟨0, 0, []⟩).a, sumD ps, allG ps⟩

/-- The block of a result that is still nothing. -/
structure Res0 (w W : World) (b : Nat) : Prop where
  r0 : W.cell? ⟨b, 0, none⟩ = some (.int .i64 0)
  r1 : W.cell? ⟨b, 1, none⟩ = some (.int .i64 0)
  r2 : W.cell? ⟨b, 2, none⟩ = some (.slice none 0 0)
  f0 : W.frozen? ⟨b, 0, none⟩ = false
  f1 : W.frozen? ⟨b, 1, none⟩ = false
  f2 : W.frozen? ⟨b, 2, none⟩ = false
  lt : b < W.heap.size
  le : w.heap.size ≤ b
  kept : Kept w W
theorem Res0.below {w W W' : World} {b B : Nat} (h : Res0 w W b) (hb : Below B W W') (hB : b < B) : Res0 w W' b := by
  have c : ∀ o, W'.cell? ⟨b, o, none⟩ = W.cell? ⟨b, o, none⟩ := fun o => hb.cell (p := ⟨b, o, none⟩) hB
  have f : ∀ o, W'.frozen? ⟨b, o, none⟩ = W.frozen? ⟨b, o, none⟩ := fun o => hb.frozen (p := ⟨b, o, none⟩) hB
  have := h.le
  exact ⟨(c _).trans h.r0, (c _).trans h.r1, (c _).trans h.r2, (f _).trans h.f0, (f _).trans h.f1, (f _).trans h.f2, Nat.lt_of_lt_of_le h.lt hb.size, h.le, h.kept.trans (hb.mono (by omega))⟩
theorem Res0.new (w W : World) (r : TypeId) (h : Kept w W) : Res0 w (W.alloc (.cells #[.int .i64 0, .int .i64 0, .slice none 0 0] r)) W.heap.size := by
  have hh : (W.alloc (.cells #[.int .i64 0, .int .i64 0, .slice none 0 0] r)).heap[W.heap.size]? = some (.cells #[.int .i64 0, .int .i64 0, .slice none 0 0] r) := by
    show (W.heap.push _)[W.heap.size]? = _
    simp
  refine ⟨by simp, by simp, by simp, ?_, ?_, ?_, by simp, h.size, h.alloc h.size _⟩ <;> (simp only [World.frozen?, hh]; rfl)
theorem Res0.stored {w W : World} {b : Nat} (h : Res0 w W b) (u0 u1 u2 : Value) : Kept w (((W.setCell ⟨b, 0, none⟩ u0).setCell ⟨b, 1, none⟩ u1).setCell ⟨b, 2, none⟩ u2) :=
  ((h.kept.setCell h.le _).setCell h.le _).setCell h.le _

theorem Res0.stored2 {w W : World} {b : Nat} (h : Res0 w W b) (u0 u1 u2 : Value) (o : Obj) : Kept w ((((W.setCell ⟨b, 0, none⟩ u0).setCell ⟨b, 1, none⟩ u1).setCell ⟨b, 2, none⟩ u2).alloc o) :=
  (h.stored u0 u1 u2).alloc (h.stored u0 u1 u2).size _

theorem allG_length {a0 : Int} : ∀ (ps : List PicD), (∀ p ∈ ps, (p.g.length : Int) = a0 * p.d) → ((allG ps).length : Int) = a0 * sumD ps
  | [], _ => by simp [allG, sumD, sumI]
  | p :: ps, h => by
    have h1 := allG_length ps (fun q hq => h q (List.mem_cons_of_mem _ hq))
    have h2 := h p List.mem_cons_self
    have e1 : allG (p :: ps) = p.g ++ allG ps := by simp [allG]
    have e2 : sumD (p :: ps) = p.d + sumD ps := rfl
    rw [e1, e2, List.length_append, Int.mul_add]
    omega
theorem allG_take_le {a0 : Int} {ps : List PicD} (_ : 0 ≤ a0) (h : ∀ p ∈ ps, (p.g.length : Int) = a0 * p.d) (hd : a0 * sumD ps ≤ 4194304) (k : Nat) : (allG (ps.take k)).length ≤ 4194304 := by
  have h1 := allG_length ps h
  have h2 : (allG ps) = allG (ps.take k) ++ allG (ps.drop k) := by
    rw [allG, allG, allG, ← List.flatMap_append, List.take_append_drop]
  have h3 := congrArg List.length h2
  rw [List.length_append] at h3
  omega
end Go.Proofs.Ytbhgcbgaadnfpaa
