/- A slice of pictures of the call's own that grows; its pictures' bytes lie elsewhere (for picture.Sheet's rows). -/
import Derived.Test.YtbhgcbgaadnfpaaPicU
namespace Go.Proofs.Ytbhgcbgaadnfpaa
theorem PicAt.grown {W W' : World} {p : PicD} {A : Option Addr} {n c : Nat} {row : Option Nat} (h : PicAt W p A n c) (hg : W.grownBy W' row) (hne : ∀ b off, A = some ⟨b, off, none⟩ → some b ≠ row) : PicAt W' p A n c :=
  ⟨h.len, h.cap, h.max, h.row.grown hg hne, h.a0, h.a1, h.d0, h.d1⟩
/-- A picture's three cells. -/
def picV (p : PicD) (A : Option Addr) (n c : Nat) : List Value := [.int .i64 p.a, .int .i64 p.d, .slice A n c]
theorem picV_one (p : PicD) (A : Option Addr) (n c : Nat) : ∀ u ∈ picV p A n c, u.oneCell' = true := by simp [picV, Value.oneCell']
structure GrowPics (W : World) (base : Nat) (v : Value) (rs : List PicD) (xs : List Value) : Prop where
  own : Own W base 3 v rs.length xs
  at_ : ∀ k p, rs[k]? = some p → ∃ A n c, xs[k * 3]? = some (.int .i64 p.a) ∧ xs[k * 3 + 1]? = some (.int .i64 p.d) ∧ xs[k * 3 + 2]? = some (.slice A n c) ∧ PicAt W p A n c ∧
    ∀ b off, A = some ⟨b, off, none⟩ → b < W.heap.size ∧ some b ≠ v.ownBlock
theorem GrowPics.nil (W : World) (base : Nat) : GrowPics W base (.slice none 0 0) [] [] := ⟨Own.nil _ _ _, fun k p h => by simp at h⟩
theorem GrowPics.kept {W W' : World} {base : Nat} {v : Value} {rs : List PicD} {xs : List Value} (h : GrowPics W base v rs xs) (hk : Kept W W') : GrowPics W' base v rs xs :=
  ⟨h.own.kept hk, fun k p hp => by
    obtain ⟨A, n, c, h0, h1, h2, h3, h4⟩ := h.at_ k p hp
    exact ⟨A, n, c, h0, h1, h2, h3.kept hk, fun b off e => ⟨Nat.lt_of_lt_of_le (h4 b off e).1 hk.size, (h4 b off e).2⟩⟩⟩
theorem GrowPics.pics {W : World} {base : Nat} {v : Value} {rs : List PicD} {xs : List Value} (h : GrowPics W base v rs xs) : ∃ A c, v = .slice A rs.length c ∧ rs.length ≤ c ∧ Pics W A rs := by
  obtain ⟨A, c, hv, hc, _, hr, _⟩ := h.own.form
  refine ⟨A, c, hv, hc, ?_⟩
  rcases hr with hx | ⟨b, off, hA, hcell⟩
  · left
    have h1 := h.own.1
    rw [hx] at h1
    exact List.eq_nil_of_length_eq_zero (by simp at h1; omega)
  · refine .inr ⟨b, off, hA, fun k p hp => ?_⟩
    obtain ⟨A', n, c', h0, h1, h2, h3, _⟩ := h.at_ k p hp
    exact ⟨A', n, c', hcell _ _ h0, by rw [Nat.add_assoc]; exact hcell _ _ h1, by rw [Nat.add_assoc]; exact hcell _ _ h2, h3⟩
theorem GrowPics.snoc {W W' : World} {base : Nat} {v v' : Value} {rs : List PicD} {xs : List Value} {p : PicD} {A : Option Addr} {n c : Nat} (h : GrowPics W base v rs xs) (hp : PicAt W p A n c)
    (hA : ∀ b off, A = some ⟨b, off, none⟩ → b < W.heap.size ∧ some b ≠ v.ownBlock) (ho : Own W' base 3 v' (rs.length + 1) (xs ++ picV p A n c)) (hg : W.grownBy W' v.ownBlock)
    (hat : v'.ownBlock = v.ownBlock ∨ ∀ k, v'.ownBlock = some k → W.heap.size ≤ k) : GrowPics W' base v' (rs ++ [p]) (xs ++ picV p A n c) := by
  have hlen : xs.length = rs.length * 3 := h.own.1
  have hfar : ∀ b, b < W.heap.size ∧ some b ≠ v.ownBlock → b < W'.heap.size ∧ some b ≠ v'.ownBlock := fun b hb => by
    refine ⟨Nat.lt_of_lt_of_le hb.1 hg.size, fun e => ?_⟩
    rcases hat with h9 | h9
    · rw [h9] at e; exact hb.2 e
    · have := h9 b e.symm; omega
  refine ⟨by simpa using ho, fun k q hq => ?_⟩
  by_cases hk : k < rs.length
  · rw [List.getElem?_append_left hk] at hq
    obtain ⟨A1, n1, c1, h0, h1, h2, h3, h4⟩ := h.at_ k q hq
    refine ⟨A1, n1, c1, ?_, ?_, ?_, h3.grown hg (fun b off e => (h4 b off e).2), fun b off e => hfar b (h4 b off e)⟩
    · rw [List.getElem?_append_left (by omega)]; exact h0
    · rw [List.getElem?_append_left (by omega)]; exact h1
    · rw [List.getElem?_append_left (by omega)]; exact h2
  · have hkk : k = rs.length := by have := (List.getElem?_eq_some_iff.1 hq).1; simp at this; omega
    subst hkk
    rw [List.getElem?_append_right (Nat.le_refl _)] at hq
    simp at hq
    subst hq
    refine ⟨A, n, c, ?_, ?_, ?_, hp.grown hg (fun b off e => (hA b off e).2), fun b off e => hfar b (hA b off e)⟩
    · rw [List.getElem?_append_right (by omega)]; simp [hlen, picV]
    · rw [List.getElem?_append_right (by omega), hlen, Nat.add_sub_cancel_left]; simp [picV]
    · rw [List.getElem?_append_right (by omega), hlen, Nat.add_sub_cancel_left]; simp [picV]
end Go.Proofs.Ytbhgcbgaadnfpaa
