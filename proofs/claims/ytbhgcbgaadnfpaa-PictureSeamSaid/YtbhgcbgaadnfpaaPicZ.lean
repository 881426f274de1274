/- Plain words: a reader of a writer's bytes. No program in sight. -/
import Derived.Test.YtbhgcbgaadnfpaaPicT
namespace Go.Proofs.Ytbhgcbgaadnfpaa
open Go.RowKit

theorem expand_pairs_append : ∀ (l m : List UInt8), Pairs l → expand (l ++ m) = expand l ++ expand m
  | [], _, _ => rfl
  | [_], _, h => h.elim
  | n :: x :: r, m, h => by
    show List.replicate n.toNat x ++ expand (r ++ m) = List.replicate n.toNat x ++ expand r ++ expand m
    rw [expand_pairs_append r m h.2, List.append_assoc]
theorem pairs_even : ∀ (l : List UInt8), Pairs l → l.length % 2 = 0
  | [], _ => rfl
  | [_], h => h.elim
  | _ :: _ :: r, h => by have := pairs_even r h.2; simp; omega
theorem lead_rep (x : UInt8) : ∀ (k : Nat) (l : List UInt8), List.replicate (lead x k l) x ++ l.drop (lead x k l) = l
  | 0, l => by simp [lead]
  | _ + 1, [] => by simp [lead]
  | k + 1, y :: l => by
    unfold lead
    split
    · next h =>
      rw [Nat.add_comm, List.replicate_succ, List.drop_succ_cons, List.cons_append, lead_rep x k l, h]
    · simp
theorem runLen_rep (x : UInt8) (l : List UInt8) : List.replicate (runLen (x :: l)) x ++ (x :: l).drop (runLen (x :: l)) = x :: l := by
  show List.replicate (1 + lead x 254 l) x ++ (x :: l).drop (1 + lead x 254 l) = x :: l
  rw [Nat.add_comm, List.replicate_succ, List.drop_succ_cons, List.cons_append, lead_rep]
theorem expand_runsF : ∀ (f : Nat) (l : List UInt8), l.length ≤ f → expand (runsF f l) = l
  | 0, [], _ => rfl
  | 0, _ :: _, h => by simp at h
  | _ + 1, [], _ => rfl
  | f + 1, x :: l, h => by
    have hb := runLen_pos x l
    show List.replicate (UInt8.ofNat (runLen (x :: l))).toNat x ++ expand (runsF f ((x :: l).drop (runLen (x :: l)))) = x :: l
    rw [expand_runsF f _ (by simp at h ⊢; omega)]
    have e : (UInt8.ofNat (runLen (x :: l))).toNat = runLen (x :: l) := by simp; omega
    rw [e, runLen_rep]
theorem expand_runs (l : List UInt8) : expand (runs l) = l := expand_runsF _ l (Nat.le_refl _)
theorem expand_runsTo (a : Nat) (g : List UInt8) : ∀ k, expand (runsTo a g k) = g.take (k * a)
  | 0 => by simp [runsTo, expand]
  | k + 1 => by
    show expand (runsTo a g k ++ runs (rowOf a g k)) = _
    rw [expand_pairs_append _ _ (pairs_runsTo a g k), expand_runsTo a g k, expand_runs, Nat.add_mul, Nat.one_mul, List.take_add]
    rfl
theorem beVal_be4 (n : Nat) (h : n ≤ 4194304) : beVal (be4 n) = n := by
  simp [beVal, be4]
  omega
theorem writeL_four (a d : Nat) (g : List UInt8) : (writeL a d g).take 4 = [70, 76, 80, 1] := by simp [writeL, headB]
theorem numAt_writeL (a d : Nat) (g : List UInt8) (ha : a ≤ 4194304) (hd : d ≤ 4194304) : numAt (writeL a d g) 4 = a ∧ numAt (writeL a d g) 8 = d := by
  constructor
  · have : ((writeL a d g).drop 4).take 4 = be4 a := by simp [writeL, headB, be4]
    unfold numAt; rw [this, beVal_be4 a ha]
  · have : ((writeL a d g).drop 8).take 4 = be4 d := by simp [writeL, headB, be4]
    unfold numAt; rw [this, beVal_be4 d hd]
theorem writeL_length (a d : Nat) (g : List UInt8) : (writeL a d g).length = 12 + (runsTo a g d).length := by simp [writeL, headB_length]
theorem readS_writeL {a d : Nat} {g : List UInt8} (h : mayB a d g.length = true) : readS (writeL a d g) = some (a, d, g) := by
  have hb := mayB_bounds h
  have hn := numAt_writeL a d g (by omega) (by omega)
  have hx : expand ((writeL a d g).drop 12) = g := by
    rw [drop_writeL, expand_runsTo, List.take_of_length_le]
    have : ((g.length : Nat) : Int) = ((d * a : Nat) : Int) := by rw [hb.2.2.2.2.1]; simp [Int.mul_comm]
    omega
  have hw : writeL (numAt (writeL a d g) 4) (numAt (writeL a d g) 8) (expand ((writeL a d g).drop 12)) = writeL a d g := by rw [hn.1, hn.2, hx]
  rw [readS_yes ?_ ?_ ?_ hw, hn.1, hn.2, hx]
  · simp only [headOk, Bool.and_eq_true, decide_eq_true_eq, writeL_four]
    exact ⟨by rw [writeL_length]; omega, by decide⟩
  · rw [writeL_length]; have := pairs_even _ (pairs_runsTo a g d); omega
  · rw [hn.1, hn.2, hx]; exact h
theorem writeL_inj {a d a' d' : Nat} {g g' : List UInt8} (h : mayB a d g.length = true) (h' : mayB a' d' g'.length = true) (he : writeL a d g = writeL a' d' g') : a = a' ∧ d = d' ∧ g = g' := by
  have e := readS_writeL h
  rw [he, readS_writeL h'] at e
  simp only [Option.some.injEq, Prod.mk.injEq] at e
  exact ⟨e.1.symm, e.2.1.symm, e.2.2.symm⟩
theorem readS_some {l : List UInt8} {a d : Nat} {g : List UInt8} (h : readS l = some (a, d, g)) : mayB a d g.length = true ∧ writeL a d g = l := by
  unfold readS at h
  split at h
  · next hc =>
    simp only [Bool.and_eq_true, beq_iff_eq] at hc
    simp only [Option.some.injEq, Prod.mk.injEq] at h
    obtain ⟨rfl, rfl, rfl⟩ := h
    exact ⟨hc.2.2.1, hc.2.2.2⟩
  · exact absurd h (by simp)
theorem writeL_le {a d : Nat} {g : List UInt8} (h : mayB a d g.length = true) : (writeL a d g).length ≤ 12 + 2 * g.length := by
  have hb := mayB_bounds h
  rw [writeL_length]
  have := runsTo_le a d g.length g d (by have : ((g.length : Nat) : Int) = ((a * d : Nat) : Int) := by rw [hb.2.2.2.2.1]; simp
                                         omega) (Nat.le_refl _)
  omega
end Go.Proofs.Ytbhgcbgaadnfpaa
