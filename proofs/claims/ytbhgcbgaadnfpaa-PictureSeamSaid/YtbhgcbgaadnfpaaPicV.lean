/- Pictures cut and put side by side: plain words. No program in sight. -/
import Derived.Test.YtbhgcbgaadnfpaaPicU
namespace Go.Proofs.Ytbhgcbgaadnfpaa
open Go.RowKit

/-! ### Cut -/
def cutB (a d c f s t : Int) : Bool := decide (1 ≤ s) && (decide (1 ≤ t) && (decide (0 ≤ c) && (decide (0 ≤ f) && (decide (s ≤ a) && (decide (t ≤ d) && (decide (c ≤ a - s) && decide (f ≤ d - t)))))))
theorem cutB_iff (a d c f s t : Int) : cutB a d c f s t = true ↔ 1 ≤ s ∧ 1 ≤ t ∧ 0 ≤ c ∧ 0 ≤ f ∧ s ≤ a ∧ t ≤ d ∧ c ≤ a - s ∧ f ≤ d - t := by simp [cutB]
theorem cutB_no {a d c f s t : Int} (h : cutB a d c f s t = false) : ¬ (1 ≤ s ∧ 1 ≤ t ∧ 0 ≤ c ∧ 0 ≤ f ∧ s ≤ a ∧ t ≤ d ∧ c ≤ a - s ∧ f ≤ d - t) := fun k => by
  rw [(cutB_iff a d c f s t).2 k] at h; cases h
def cropG (a c s : Nat) (g : List UInt8) (f : Nat) : Nat → List UInt8
  | 0 => []
  | k + 1 => cropG a c s g f k ++ ((rowOf a g (f + k)).drop c).take s
theorem rowOf_length (a : Nat) (g : List UInt8) (k d : Nat) (hl : g.length = a * d) (hk : k < d) : (rowOf a g k).length = a := by
  have : (k + 1) * a ≤ d * a := Nat.mul_le_mul_right _ hk
  rw [Nat.add_mul, Nat.mul_comm d a] at this
  simp [rowOf]; omega
theorem piece_length (a c s : Nat) (g : List UInt8) (k d : Nat) (hl : g.length = a * d) (hk : k < d) (hc : c + s ≤ a) : (((rowOf a g k).drop c).take s).length = s := by
  rw [List.length_take, List.length_drop, rowOf_length a g k d hl hk]; omega
theorem cropG_length (a c s d : Nat) (g : List UInt8) (f : Nat) (hl : g.length = a * d) (hc : c + s ≤ a) : ∀ k, f + k ≤ d → (cropG a c s g f k).length = k * s
  | 0, _ => by simp [cropG]
  | k + 1, hk => by
    rw [cropG, List.length_append, cropG_length a c s d g f hl hc k (by omega), piece_length a c s g (f + k) d hl (by omega) hc, Nat.add_mul]; omega
/-- The reference's way to take a piece. -/
theorem piece_ref (a c s : Nat) (g : List UInt8) (k : Nat) (hc : c + s ≤ a) : ((rowOf a g k).drop c).take s = (g.drop (k * a + c)).take s := by
  rw [rowOf, List.drop_take, List.drop_drop, List.take_take, Nat.min_eq_left (by omega)]
def cropE (p : PicD) (c f s t : Int) : Int := if p.may then (if cutB p.a p.d c f s t then 0 else 2) else 290
def cropP (p : PicD) (c f s t : Int) : PicD := ⟨s, t, cropG p.a.toNat c.toNat s.toNat p.g f.toNat t.toNat⟩

/-! ### Side by side -/
def rowsAt (ps : List PicD) (k : Nat) : List UInt8 := ps.flatMap fun p => rowOf p.a.toNat p.g k
def besideG (ps : List PicD) : Nat → List UInt8
  | 0 => []
  | k + 1 => besideG ps k ++ rowsAt ps k
def besideE (ps : List PicD) : Int :=
  match ps with
  | [] => 2
  | p :: _ => if allE ps = 0 then (if ps.all (fun q => q.d == p.d) then (if sizeB (sumA ps) p.d then 0 else 4) else 291) else 290
def besideP (ps : List PicD) : PicD := ⟨sumA ps, (ps.headD ⟨0, 0, []⟩).d, besideG ps (ps.headD ⟨0, 0, []⟩).d.toNat⟩
theorem rowsAt_next {ps : List PicD} {j : Nat} {p : PicD} (hp : ps[j]? = some p) (k : Nat) : rowsAt (ps.take (j + 1)) k = rowsAt (ps.take j) k ++ rowOf p.a.toNat p.g k := by
  rw [take_next hp]; simp [rowsAt]
theorem rowsAt_length : ∀ (ps : List PicD) (k d : Nat), (∀ p ∈ ps, 0 ≤ p.a ∧ (p.g.length : Int) = p.a * d) → k < d → ((rowsAt ps k).length : Int) = sumA ps
  | [], k, d, _, _ => by simp [rowsAt, sumA, sumI]
  | p :: ps, k, d, h, hk => by
    have h1 := rowsAt_length ps k d (fun q hq => h q (List.mem_cons_of_mem _ hq)) hk
    obtain ⟨h2, h3⟩ := h p List.mem_cons_self
    have h4 : (rowOf p.a.toNat p.g k).length = p.a.toNat := rowOf_length _ _ _ d (by
      have e : ((p.a.toNat * d : Nat) : Int) = p.a * d := by rw [Int.natCast_mul, Int.toNat_of_nonneg h2]
      omega) hk
    have e1 : rowsAt (p :: ps) k = rowOf p.a.toNat p.g k ++ rowsAt ps k := by simp [rowsAt]
    have e2 : sumA (p :: ps) = p.a + sumA ps := rfl
    rw [e1, e2, List.length_append, h4]
    omega
theorem besideG_length (ps : List PicD) (d : Nat) (h : ∀ p ∈ ps, 0 ≤ p.a ∧ (p.g.length : Int) = p.a * d) : ∀ k, k ≤ d → ((besideG ps k).length : Int) = k * sumA ps
  | 0, _ => by simp [besideG]
  | k + 1, hk => by
    have h1 := besideG_length ps d h k (by omega)
    have h2 := rowsAt_length ps k d h (by omega)
    rw [besideG, List.length_append, Int.natCast_add, h1, h2, Int.natCast_add, Int.add_mul]
    simp
theorem sumA_take_le {ps : List PicD} (h : ∀ p ∈ ps, 0 ≤ p.a) (j : Nat) : 0 ≤ sumA (ps.take j) ∧ sumA (ps.take j) ≤ sumA ps := by
  induction ps generalizing j with
  | nil => simp [sumA, sumI]
  | cons p ps ih =>
    cases j with
    | zero =>
      have := (ih (fun q hq => h q (List.mem_cons_of_mem _ hq)) ps.length).1
      rw [List.take_of_length_le (Nat.le_refl _)] at this
      have h0 := h p List.mem_cons_self
      have e2 : sumA (p :: ps) = p.a + sumA ps := rfl
      simp only [List.take_zero]
      rw [e2]
      simp [sumA, sumI] at this ⊢
      omega
    | succ j =>
      have := ih (fun q hq => h q (List.mem_cons_of_mem _ hq)) j
      have h0 := h p List.mem_cons_self
      have e2 : sumA (p :: ps) = p.a + sumA ps := rfl
      have e3 : sumA (p :: ps.take j) = p.a + sumA (ps.take j) := rfl
      rw [List.take_succ_cons, e2, e3]
      omega

theorem bes_room (qs : List PicD) (d : Nat) (h : ∀ p ∈ qs, 0 ≤ p.a ∧ (p.g.length : Int) = p.a * d) {k j : Nat} {q : PicD} (hq : qs[j]? = some q) (hk : k < d) (hS : sumA qs * d ≤ 4194304) :
    (besideG qs k ++ rowsAt (qs.take j) k).length + q.a.toNat ≤ 4194304 ∧ (rowOf q.a.toNat q.g k).length = q.a.toNat := by
  have hm := h q (List.mem_of_getElem? hq)
  have hr : (rowOf q.a.toNat q.g k).length = q.a.toNat := rowOf_length _ _ _ d (by
    have e : ((q.a.toNat * d : Nat) : Int) = q.a * d := by rw [Int.natCast_mul, Int.toNat_of_nonneg hm.1]
    omega) hk
  refine ⟨?_, hr⟩
  have h1 := besideG_length qs d h (k + 1) (by omega)
  have h2 : rowsAt qs k = rowsAt (qs.take (j + 1)) k ++ rowsAt (qs.drop (j + 1)) k := by
    rw [rowsAt, rowsAt, rowsAt, ← List.flatMap_append, List.take_append_drop]
  rw [besideG, h2, rowsAt_next hq, List.length_append, List.length_append, List.length_append, hr] at h1
  have h0 : 0 ≤ sumA qs := by have := (sumA_take_le (fun p hp => (h p hp).1) qs.length).1; rwa [List.take_of_length_le (Nat.le_refl _)] at this
  have h3 : ((k + 1 : Nat) : Int) * sumA qs ≤ (d : Int) * sumA qs := Int.mul_le_mul_of_nonneg_right (by omega) h0
  rw [Int.mul_comm (d : Int)] at h3
  rw [List.length_append]
  omega

/-! ### Cut and put together again -/
theorem rowOf_glue (a k : Nat) (g : List UInt8) (i d : Nat) (hl : g.length = a * d) (hi : i < d) : ((rowOf a g i).drop 0).take k ++ ((rowOf a g i).drop k).take (a - k) = rowOf a g i := by
  have h := rowOf_length a g i d hl hi
  rw [List.drop_zero, List.take_of_length_le (l := (rowOf a g i).drop k) (by rw [List.length_drop, h]; exact Nat.le_refl _), List.take_append_drop]
/-- Row i of what was cut. -/
theorem rowOf_cropG (a c s d : Nat) (g : List UInt8) (f t : Nat) (hl : g.length = a * d) (hc : c + s ≤ a) (ht : f + t ≤ d) (i : Nat) (hi : i < t) : rowOf s (cropG a c s g f t) i = ((rowOf a g (f + i)).drop c).take s := by
  induction t with
  | zero => omega
  | succ t ih =>
    have hlt := cropG_length a c s d g f hl hc t (by omega)
    have hp := piece_length a c s g (f + t) d hl (by omega) hc
    rw [cropG]
    by_cases h : i < t
    · rw [← ih (by omega) h]
      have h2 : (i + 1) * s ≤ t * s := Nat.mul_le_mul_right _ h
      rw [Nat.add_mul] at h2
      unfold rowOf
      rw [List.drop_append_of_le_length (by omega), List.take_append_of_le_length (by rw [List.length_drop]; omega)]
    · obtain rfl : i = t := by omega
      unfold rowOf
      unfold rowOf at hp
      rw [← hlt, List.drop_left, List.take_of_length_le (by rw [hp]; exact Nat.le_refl _)]
/-- All rows, one behind the other. -/
def rowsG (a : Nat) (g : List UInt8) : Nat → List UInt8
  | 0 => []
  | k + 1 => rowsG a g k ++ rowOf a g k
theorem rowsG_take (a : Nat) (g : List UInt8) : ∀ k, rowsG a g k = g.take (k * a)
  | 0 => by simp [rowsG]
  | k + 1 => by rw [rowsG, rowsG_take a g k, rowOf, Nat.add_mul, Nat.one_mul, List.take_add]
theorem rowsG_all (a d : Nat) (g : List UInt8) (hl : g.length = a * d) : rowsG a g d = g := by
  rw [rowsG_take, List.take_of_length_le (by rw [hl, Nat.mul_comm]; exact Nat.le_refl _)]
theorem beside_cut (a d k : Nat) (g : List UInt8) (hl : g.length = a * d) (hk : k ≤ a) : ∀ t, t ≤ d →
    besideG [⟨(k : Int), d, cropG a 0 k g 0 d⟩, ⟨((a - k : Nat) : Int), d, cropG a k (a - k) g 0 d⟩] t = rowsG a g t
  | 0, _ => rfl
  | t + 1, ht => by
    rw [besideG, beside_cut a d k g hl hk t (by omega), rowsG]
    congr 1
    simp only [rowsAt, List.flatMap_cons, List.flatMap_nil, List.append_nil, Int.toNat_natCast]
    rw [rowOf_cropG a 0 k d g 0 d hl (by omega) (by omega) t (by omega), rowOf_cropG a k (a - k) d g 0 d hl (by omega) (by omega) t (by omega), Nat.zero_add]
    exact rowOf_glue a k g t d hl (by omega)
/-- Rows that are taken whole. -/
theorem cropG_whole (a d : Nat) (g : List UInt8) (f : Nat) (hl : g.length = a * d) : ∀ t, f + t ≤ d → cropG a 0 a g f t = (g.drop (f * a)).take (t * a)
  | 0, _ => by simp [cropG]
  | t + 1, ht => by
    have h := rowOf_length a g (f + t) d hl (by omega)
    rw [cropG, cropG_whole a d g f hl t (by omega), List.drop_zero, List.take_of_length_le (l := rowOf a g (f + t)) (by omega), rowOf, Nat.add_mul t 1 a, Nat.one_mul, List.take_add, List.drop_drop, Nat.add_mul]
theorem below_cut (a d k : Nat) (g : List UInt8) (hl : g.length = a * d) (hk : k ≤ d) : cropG a 0 a g 0 k ++ cropG a 0 a g k (d - k) = g := by
  rw [cropG_whole a d g 0 hl k (by omega), cropG_whole a d g k hl (d - k) (by omega), Nat.zero_mul, List.drop_zero]
  have e : (d - k) * a = d * a - k * a := Nat.sub_mul _ _ _
  have e2 : k * a ≤ d * a := Nat.mul_le_mul_right _ hk
  rw [List.take_of_length_le (l := g.drop (k * a)) (by rw [List.length_drop, hl, e, Nat.mul_comm]; exact Nat.le_refl _), List.take_append_drop]
end Go.Proofs.Ytbhgcbgaadnfpaa
