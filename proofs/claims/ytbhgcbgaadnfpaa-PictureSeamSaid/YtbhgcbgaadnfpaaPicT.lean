/- Plain words on reading a picture's bytes. No program in sight. -/
import Derived.Test.YtbhgcbgaadnfpaaPicS
namespace Go.Proofs.Ytbhgcbgaadnfpaa
open Go.RowKit

def beVal (l : List UInt8) : Nat := l.foldl (fun n b => n * 256 + b.toNat) 0
def expand : List UInt8 → List UInt8
  | n :: x :: r => List.replicate n.toNat x ++ expand r
  | _ => []
def numAt (l : List UInt8) (k : Nat) : Nat := beVal ((l.drop k).take 4)
def headOk (l : List UInt8) : Bool := decide (12 ≤ l.length) && (l.take 4 == [70, 76, 80, 1])
/-- What a reader answers: the picture whose bytes these are, if there is one. -/
def readS (l : List UInt8) : Option (Nat × Nat × List UInt8) :=
  if headOk l && (decide (l.length % 2 = 0) && (mayB (numAt l 4) (numAt l 8) (expand (l.drop 12)).length && (writeL (numAt l 4) (numAt l 8) (expand (l.drop 12)) == l))) then some (numAt l 4, numAt l 8, expand (l.drop 12)) else none

theorem beVal_snoc (l : List UInt8) (b : UInt8) : beVal (l ++ [b]) = beVal l * 256 + b.toNat := by simp [beVal]
theorem foldl_lt : ∀ (l : List UInt8) (n : Nat), l.foldl (fun n (b : UInt8) => n * 256 + b.toNat) n < (n + 1) * 256 ^ l.length
  | [], n => by simp
  | b :: l, n => by
    have h := foldl_lt l (n * 256 + b.toNat)
    have hb := b.toNat_lt
    have h2 : (n * 256 + b.toNat + 1) * 256 ^ l.length ≤ ((n + 1) * 256) * 256 ^ l.length := Nat.mul_le_mul_right _ (by omega)
    simp only [List.foldl_cons, List.length_cons, Nat.pow_succ]
    rw [Nat.mul_assoc] at h2
    rw [Nat.mul_comm (256 ^ l.length) 256]
    omega
theorem beVal_lt (l : List UInt8) : beVal l < 256 ^ l.length := by unfold beVal; simpa using foldl_lt l 0
theorem expand_split : ∀ (j : Nat) (m : List UInt8), 2 * j ≤ m.length → expand m = expand (m.take (2 * j)) ++ expand (m.drop (2 * j))
  | 0, m, _ => by simp [expand]
  | j + 1, [], h => by simp at h
  | j + 1, [_], h => by simp at h; omega
  | j + 1, n :: x :: r, h => by
    have h1 : 2 * (j + 1) = 2 * j + 1 + 1 := by omega
    rw [h1]
    simp only [List.take_succ_cons, List.drop_succ_cons, expand, List.append_assoc]
    rw [← expand_split j r (by simp at h; omega)]
theorem expand_next (j : Nat) (m : List UInt8) (n x : UInt8) (h : 2 * j + 1 < m.length) (hn : m[2 * j]? = some n) (hx : m[2 * j + 1]? = some x) :
    expand (m.take (2 * (j + 1))) = expand (m.take (2 * j)) ++ List.replicate n.toNat x := by
  have h1 : m.take (2 * (j + 1)) = m.take (2 * j) ++ [n, x] := by
    rw [show 2 * (j + 1) = 2 * j + 1 + 1 by omega, List.take_add_one, List.take_add_one, hn, hx]
    simp
  rw [h1, expand_split j (m.take (2 * j) ++ [n, x]) (by simp; omega)]
  have h2 : (m.take (2 * j)).length = 2 * j := by simp; omega
  rw [List.take_append_of_le_length (by omega), List.take_of_length_le (by omega), List.drop_append_of_le_length (by omega), List.drop_of_length_le (by omega)]
  simp [expand]
theorem expand_length (j : Nat) (m : List UInt8) (n : UInt8) (h : 2 * j + 1 < m.length) (hn : m[2 * j]? = some n) : (expand (m.take (2 * j))).length + n.toNat ≤ (expand m).length := by
  have hx : m[2 * j + 1]? = some m[2 * j + 1] := List.getElem?_eq_getElem h
  have h1 := expand_next j m n _ h hn hx
  rw [expand_split (j + 1) m (by omega), h1]
  simp

/-- Pairs whose first byte is not 0. -/
def Pairs : List UInt8 → Prop
  | [] => True
  | [_] => False
  | n :: _ :: r => n ≠ 0 ∧ Pairs r
theorem Pairs.append : ∀ {l m : List UInt8}, Pairs l → Pairs m → Pairs (l ++ m)
  | [], _, _, h => h
  | [_], _, h, _ => h.elim
  | _ :: _ :: _, _, h, k => ⟨h.1, Pairs.append h.2 k⟩
theorem Pairs.at_ : ∀ {l : List UInt8} (j : Nat), Pairs l → l[2 * j]? ≠ some 0
  | [], _, _ => by simp
  | [_], _, h => h.elim
  | n :: _ :: r, 0, h => by simpa using h.1
  | n :: x :: r, j + 1, h => by
    have := Pairs.at_ (l := r) j h.2
    rw [show 2 * (j + 1) = 2 * j + 1 + 1 by omega]
    simpa using this
theorem pairs_runsF : ∀ (f : Nat) (l : List UInt8), Pairs (runsF f l)
  | 0, _ => trivial
  | _ + 1, [] => trivial
  | f + 1, x :: l => by
    have h := runLen_pos x l
    refine ⟨fun h0 => ?_, pairs_runsF f _⟩
    have := congrArg UInt8.toNat h0
    simp at this
    omega
theorem pairs_runsTo (a : Nat) (g : List UInt8) : ∀ k, Pairs (runsTo a g k)
  | 0 => trivial
  | k + 1 => (pairs_runsTo a g k).append (pairs_runsF _ _)
theorem drop_writeL (a d : Nat) (g : List UInt8) : (writeL a d g).drop 12 = runsTo a g d := by
  simp [writeL, headB, be4]

theorem readS_head {l : List UInt8} (h : headOk l = false) : readS l = none := by simp [readS, h]
theorem readS_may {l : List UInt8} (h : mayB (numAt l 4) (numAt l 8) (expand (l.drop 12)).length = false) : readS l = none := by simp [readS, h]
theorem readS_size {l : List UInt8} (h : sizeB (numAt l 4) (numAt l 8) = false) : readS l = none := readS_may (by simp [mayB, h])
theorem readS_odd {l : List UInt8} (h : l.length % 2 ≠ 0) : readS l = none := by simp [readS, h]
theorem readS_zero {l : List UInt8} {j : Nat} (h : l[12 + 2 * j]? = some 0) : readS l = none := by
  by_cases hw : writeL (numAt l 4) (numAt l 8) (expand (l.drop 12)) = l
  · have h1 := (pairs_runsTo (numAt l 4) (expand (l.drop 12)) (numAt l 8)).at_ j
    rw [← drop_writeL, hw, List.getElem?_drop] at h1
    exact absurd h h1
  · simp [readS, hw]
theorem readS_over {l : List UInt8} {j : Nat} {n : UInt8} (hj : 12 + 2 * j + 1 < l.length) (hn : l[12 + 2 * j]? = some n) (h : numAt l 4 * numAt l 8 < (expand ((l.drop 12).take (2 * j))).length + n.toNat) : readS l = none := by
  have h1 := expand_length j (l.drop 12) n (by rw [List.length_drop]; omega) (by rw [List.getElem?_drop]; exact hn)
  refine readS_may ?_
  cases hm : mayB (numAt l 4) (numAt l 8) (expand (l.drop 12)).length with
  | false => rfl
  | true =>
    have := (mayB_bounds hm).2.2.2.2.1
    have h2 : ((numAt l 4 * numAt l 8 : Nat) : Int) = numAt l 4 * numAt l 8 := by simp
    omega
theorem readS_other {l : List UInt8} (h : writeL (numAt l 4) (numAt l 8) (expand (l.drop 12)) ≠ l) : readS l = none := by simp [readS, h]
theorem readS_yes {l : List UInt8} (h : headOk l = true) (ho : l.length % 2 = 0) (hm : mayB (numAt l 4) (numAt l 8) (expand (l.drop 12)).length = true) (hw : writeL (numAt l 4) (numAt l 8) (expand (l.drop 12)) = l) :
    readS l = some (numAt l 4, numAt l 8, expand (l.drop 12)) := by simp [readS, h, ho, hm, hw]

theorem or_low (n b : Int) (h0 : 0 ≤ n) (h1 : n < 1099511627776) (h2 : 0 ≤ b) (h3 : b < 256) : bits .or .i64 (n * 256) b = n * 256 + b := by
  obtain ⟨m, rfl⟩ := Int.eq_ofNat_of_zero_le h0
  obtain ⟨c, rfl⟩ := Int.eq_ofNat_of_zero_le h2
  have e1 : (m : Int) * 256 = ((m * 256 : Nat) : Int) := by simp
  have hb : m * 256 ||| c = m * 256 + c := by
    have := Nat.two_pow_add_eq_or_of_lt (i := 8) (b := c) (by omega) m
    rw [show m * 256 = 2 ^ 8 * m by omega, this]
  rw [e1]
  show IntKind.i64.wrap ((BitVec.ofInt 64 ((m * 256 : Nat) : Int) ||| BitVec.ofInt 64 (c : Int)).toNat : Int) = _
  have t : ∀ q : Nat, q < 9223372036854775808 → (BitVec.ofInt 64 (q : Int)).toNat = q := fun q hq => by
    rw [BitVec.ofInt_natCast, BitVec.toNat_ofNat]; exact Nat.mod_eq_of_lt (by omega)
  rw [BitVec.toNat_or, t _ (by omega), t _ (by omega), hb, IntKind.wrap_i64]
  omega
end Go.Proofs.Ytbhgcbgaadnfpaa
