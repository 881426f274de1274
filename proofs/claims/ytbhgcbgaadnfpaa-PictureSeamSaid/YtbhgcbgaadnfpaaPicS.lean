/- Plain words on pictures: sizes, runs, bytes. No program in sight. -/
import Derived.WalkKit
namespace Go.Proofs.Ytbhgcbgaadnfpaa
open Go.RowKit

def sizeB (a d : Int) : Bool := decide (1 ≤ a) && (decide (1 ≤ d) && (decide (a ≤ 4194304) && decide (d ≤ 4194304 / a)))
def mayB (a d : Int) (n : Nat) : Bool := sizeB a d && decide ((n : Int) = a * d)
def checkI (a d : Int) (n : Nat) : Int := if mayB a d n then 0 else 290

theorem sizeB_iff (a d : Int) : sizeB a d = true ↔ 1 ≤ a ∧ 1 ≤ d ∧ a ≤ 4194304 ∧ d ≤ 4194304 / a := by simp [sizeB]
theorem sizeB_bounds {a d : Int} (h : sizeB a d = true) : 1 ≤ a ∧ a ≤ 4194304 ∧ 1 ≤ d ∧ d ≤ 4194304 ∧ 1 ≤ a * d ∧ a * d ≤ 4194304 := by
  obtain ⟨h1, h2, h3, h4⟩ := (sizeB_iff a d).1 h
  have h5 : d * a ≤ 4194304 := Int.le_trans (Int.mul_le_mul_of_nonneg_right h4 (by omega)) (Int.ediv_mul_le _ (by omega))
  have h6 : 1 * 1 ≤ a * d := Int.mul_le_mul h1 h2 (by omega) (by omega)
  rw [Int.mul_comm] at h5
  have h7 : 1 * d ≤ a * d := Int.mul_le_mul_of_nonneg_right h1 (by omega)
  omega
/-- The reference's way to say it. -/
def rightB (a d n m : Int) : Bool := !(decide (a < 1) || (decide (d < 1) || (decide (m < a) || decide (m < d)))) && (decide (a * d ≤ m) && decide (n = a * d))
theorem right_may (a d : Int) (n : Nat) : rightB a d n 4194304 = mayB a d n := by
  rw [Bool.eq_iff_iff]
  constructor
  · intro h
    simp [rightB] at h
    obtain ⟨⟨h1, h2, h3, h4⟩, h5, h6⟩ := h
    have h7 : d ≤ 4194304 / a := (Int.le_ediv_iff_mul_le (by omega)).2 (by rw [Int.mul_comm]; exact h5)
    simp [mayB, sizeB]
    exact ⟨⟨by omega, by omega, h3, h7⟩, h6⟩
  · intro h
    simp only [mayB, Bool.and_eq_true, decide_eq_true_eq] at h
    have hb := sizeB_bounds h.1
    simp [rightB]
    exact ⟨⟨by omega, by omega, by omega, by omega⟩, by omega, h.2⟩

theorem mayB_bounds {a d : Int} {n : Nat} (h : mayB a d n = true) : 1 ≤ a ∧ a ≤ 4194304 ∧ 1 ≤ d ∧ d ≤ 4194304 ∧ (n : Int) = a * d ∧ 1 ≤ n ∧ n ≤ 4194304 := by
  simp only [mayB, Bool.and_eq_true, decide_eq_true_eq] at h
  have hb := sizeB_bounds h.1
  omega

/-! ### Runs -/

/-- How many of the first k of l are x, without a gap. -/
def lead (x : UInt8) : Nat → List UInt8 → Nat
  | 0, _ => 0
  | _ + 1, [] => 0
  | k + 1, y :: l => if y = x then 1 + lead x k l else 0
def runLen : List UInt8 → Nat
  | [] => 0
  | x :: l => 1 + lead x 254 l
theorem lead_le (x : UInt8) : ∀ (k : Nat) (l : List UInt8), lead x k l ≤ k ∧ lead x k l ≤ l.length
  | 0, _ => by simp [lead]
  | _ + 1, [] => by simp [lead]
  | k + 1, y :: l => by
    have := lead_le x k l
    unfold lead
    split <;> simp <;> omega
theorem lead_spec (x : UInt8) : ∀ (k n : Nat) (l : List UInt8), n ≤ k → n ≤ l.length → (∀ i, i < n → l[i]? = some x) → (n = k ∨ n = l.length ∨ l[n]? ≠ some x) → lead x k l = n
  | 0, n, _, hk, _, _, _ => by simp [lead]; omega
  | _ + 1, n, [], _, hl, _, _ => by simp [lead] at hl ⊢; omega
  | k + 1, 0, y :: l, _, _, _, he => by
    unfold lead
    rw [if_neg]
    intro h
    subst h
    rcases he with h | h | h <;> simp at h
  | k + 1, n + 1, y :: l, hk, hl, hx, he => by
    have h0 : y = x := by simpa using hx 0 (by omega)
    unfold lead
    rw [if_pos h0, lead_spec x k n l (by omega) (by simpa using hl) (fun i hi => by simpa using hx (i + 1) (by omega)) (by
      rcases he with h | h | h
      · exact .inl (by omega)
      · exact .inr (.inl (by simpa using h))
      · exact .inr (.inr (by simpa using h)))]
    omega
theorem runLen_spec (x : UInt8) (l : List UInt8) (n : Nat) (h1 : 1 ≤ n) (h255 : n ≤ 255) (hl : n ≤ (x :: l).length) (hx : ∀ i, i < n → (x :: l)[i]? = some x) (he : n = 255 ∨ n = (x :: l).length ∨ (x :: l)[n]? ≠ some x) : runLen (x :: l) = n := by
  obtain ⟨m, rfl⟩ : ∃ m, n = m + 1 := ⟨n - 1, by omega⟩
  show 1 + lead x 254 l = m + 1
  rw [lead_spec x 254 m l (by omega) (by simpa using hl) (fun i hi => by simpa using hx (i + 1) (by omega)) (by
      rcases he with h | h | h
      · exact .inl (by omega)
      · exact .inr (.inl (by simpa using h))
      · exact .inr (.inr (by simpa using h)))]
  omega
theorem runLen_pos (x : UInt8) (l : List UInt8) : 1 ≤ runLen (x :: l) ∧ runLen (x :: l) ≤ 255 ∧ runLen (x :: l) ≤ (x :: l).length := by
  have := lead_le x 254 l
  simp [runLen]
  omega

/-- The runs of a row, two bytes each (fuel: as many as there are greys). -/
def runsF : Nat → List UInt8 → List UInt8
  | 0, _ => []
  | _ + 1, [] => []
  | f + 1, x :: l => UInt8.ofNat (runLen (x :: l)) :: x :: runsF f ((x :: l).drop (runLen (x :: l)))
def runs (l : List UInt8) : List UInt8 := runsF l.length l
theorem runsF_more : ∀ (f g : Nat) (l : List UInt8), l.length ≤ f → l.length ≤ g → runsF f l = runsF g l
  | 0, 0, _, _, _ => rfl
  | 0, g + 1, [], _, _ => rfl
  | 0, g + 1, x :: l, h, _ => by simp at h
  | f + 1, 0, [], _, _ => rfl
  | f + 1, 0, x :: l, _, h => by simp at h
  | f + 1, g + 1, [], _, _ => rfl
  | f + 1, g + 1, x :: l, hf, hg => by
    have := runLen_pos x l
    unfold runsF
    rw [runsF_more f g _ (by simp at hf ⊢; omega) (by simp at hg ⊢; omega)]
theorem runs_nil : runs [] = [] := rfl
theorem runs_cons (x : UInt8) (l : List UInt8) : runs (x :: l) = UInt8.ofNat (runLen (x :: l)) :: x :: runs ((x :: l).drop (runLen (x :: l))) := by
  have := runLen_pos x l
  have hl : ((x :: l).drop (runLen (x :: l))).length = l.length + 1 - runLen (x :: l) := by simp
  show runsF (l.length + 1) (x :: l) = _
  rw [runsF, runs, runsF_more l.length _ _ (by omega) (Nat.le_refl _)]
theorem runsF_length : ∀ (f : Nat) (l : List UInt8), (runsF f l).length ≤ 2 * l.length
  | 0, _ => by simp [runsF]
  | _ + 1, [] => by simp [runsF]
  | f + 1, x :: l => by
    have h := runsF_length f ((x :: l).drop (runLen (x :: l)))
    have := runLen_pos x l
    simp [runsF] at h ⊢
    omega
theorem runs_length (l : List UInt8) : (runs l).length ≤ 2 * l.length := runsF_length _ _

/-- Does the run end behind q of l? -/
def stopB (q : Nat) (l : List UInt8) : Bool := decide (q = l.length) || (decide (q = 255) || !(l[q]? == l[0]?))
theorem stop_len {q : Nat} {x : UInt8} {r : List UInt8} (h1 : 1 ≤ q) (h2 : q ≤ 255) (h3 : q ≤ (x :: r).length) (hx : ∀ i, i < q → (x :: r)[i]? = some x) (hs : stopB q (x :: r) = true) : runLen (x :: r) = q := by
  refine runLen_spec x r q h1 h2 h3 hx ?_
  simp only [stopB, Bool.or_eq_true, decide_eq_true_eq, Bool.not_eq_true', beq_eq_false_iff_ne] at hs
  rcases hs with h | h | h
  · exact .inr (.inl h)
  · exact .inl h
  · exact .inr (.inr (by simpa using h))
theorem stop_no {q : Nat} {x : UInt8} {r : List UInt8} (hs : stopB q (x :: r) = false) (h3 : q ≤ (x :: r).length) (hx : ∀ i, i < q → (x :: r)[i]? = some x) : q ≠ 255 ∧ q + 1 ≤ (x :: r).length ∧ ∀ i, i < q + 1 → (x :: r)[i]? = some x := by
  simp only [stopB, Bool.or_eq_false_iff, decide_eq_false_iff_not, Bool.not_eq_false', beq_iff_eq] at hs
  obtain ⟨h, h', h''⟩ := hs
  refine ⟨h', by omega, fun i hi => ?_⟩
  by_cases hq : i = q
  · subst hq; rw [h'']; rfl
  · exact hx i (by omega)

/-- Row k of greys g that are a across. -/
def rowOf (a : Nat) (g : List UInt8) (k : Nat) : List UInt8 := (g.drop (k * a)).take a
/-- The runs of the first k rows. -/
def runsTo (a : Nat) (g : List UInt8) : Nat → List UInt8
  | 0 => []
  | k + 1 => runsTo a g k ++ runs (rowOf a g k)
theorem runsTo_length (a : Nat) (g : List UInt8) : ∀ k, (runsTo a g k).length ≤ 2 * (k * a)
  | 0 => by simp [runsTo]
  | k + 1 => by
    have h := runsTo_length a g k
    have h2 := runs_length (rowOf a g k)
    have h3 : (rowOf a g k).length ≤ a := by simp [rowOf]; omega
    simp [runsTo, Nat.add_mul]
    omega

theorem runsTo_le (a d n : Nat) (g : List UInt8) (k : Nat) (hn : n = a * d) (hk : k ≤ d) : (runsTo a g k).length ≤ 2 * n := by
  have := runsTo_length a g k
  have h2 : k * a ≤ d * a := Nat.mul_le_mul_right _ hk
  rw [Nat.mul_comm d a, ← hn] at h2
  omega
def be4 (n : Nat) : List UInt8 := [UInt8.ofNat (n / 16777216), UInt8.ofNat (n / 65536), UInt8.ofNat (n / 256), UInt8.ofNat n]
def headB (a d : Nat) : List UInt8 := [70, 76, 80, 1] ++ be4 a ++ be4 d
theorem headB_length (a d : Nat) : (headB a d).length = 12 := rfl
/-- The bytes of a picture. -/
def writeL (a d : Nat) (g : List UInt8) : List UInt8 := headB a d ++ runsTo a g d
def bytesV (l : List UInt8) : List Value := l.map fun b => .int .u8 (b.toNat : Int)
theorem bytesV_length (l : List UInt8) : (bytesV l).length = l.length := by simp [bytesV]
theorem bytesV_append (l k : List UInt8) : bytesV (l ++ k) = bytesV l ++ bytesV k := by simp [bytesV]
theorem bytesV_take (l : List UInt8) (k : Nat) : (bytesV l).take k = bytesV (l.take k) := by simp [bytesV]
theorem bytesV_drop (l : List UInt8) (k : Nat) : (bytesV l).drop k = bytesV (l.drop k) := by simp [bytesV]
theorem bytesV_get (l : List UInt8) (k : Nat) (h : k < l.length) : (bytesV l)[k]? = some (.int .u8 (l[k].toNat : Int)) := by simp [bytesV, h]
theorem bytesV_one (l : List UInt8) : ∀ u ∈ bytesV l, u.oneCell' = true := by
  intro u hu
  simp [bytesV] at hu
  obtain ⟨b, _, rfl⟩ := hu
  rfl
theorem be4_ints (k : Int) (h0 : 0 ≤ k) (h1 : k ≤ 4194304) : [Value.int .u8 (k / 16777216), .int .u8 (k / 65536), .int .u8 (k / 256 % 256), .int .u8 (k % 256)] = bytesV (be4 k.toNat) := by
  obtain ⟨m, rfl⟩ := Int.eq_ofNat_of_zero_le h0
  simp [be4, bytesV]
  omega
end Go.Proofs.Ytbhgcbgaadnfpaa
