/- Lists of tiles in memory. -/
import Derived.Test.YtbhgcbgaadnfpaaPlc
import Derived.Test.YtbhgcbgaadnfpaaTile
namespace Go.Proofs.Ytbhgcbgaadnfpaa
open Go.RowKit

/-- A tile and the head of its slice. -/
structure TilH where
  T : TilD
  A : Option Addr
  n : Nat
  c : Nat
def tilV : List TilH → List Value
  | [] => []
  | t :: l => .int .i64 t.T.x :: .int .i64 t.T.y :: .int .i64 t.T.a :: .int .i64 t.T.d :: .slice t.A t.n t.c :: tilV l
theorem tilV_length : ∀ l, (tilV l).length = l.length * 5
  | [] => rfl
  | x :: l => by simp [tilV, tilV_length l]; omega
theorem tilV_append : ∀ l k, tilV (l ++ k) = tilV l ++ tilV k
  | [], k => rfl
  | x :: l, k => by simp [tilV, tilV_append l k]
theorem tilV_get : ∀ (l : List TilH) (k : Nat) (t : TilH), l[k]? = some t → (tilV l)[k * 5]? = some (.int .i64 t.T.x) ∧ (tilV l)[k * 5 + 1]? = some (.int .i64 t.T.y) ∧ (tilV l)[k * 5 + 2]? = some (.int .i64 t.T.a) ∧ (tilV l)[k * 5 + 3]? = some (.int .i64 t.T.d) ∧ (tilV l)[k * 5 + 4]? = some (.slice t.A t.n t.c)
  | [], k, x, h => by simp at h
  | y :: l, 0, x, h => by
    simp at h; subst h
    simp [tilV]
  | y :: l, k + 1, x, h => by
    have := tilV_get l k x (by simpa using h)
    rw [show (k + 1) * 5 = k * 5 + 1 + 1 + 1 + 1 + 1 by omega]
    simpa [tilV, Nat.add_assoc] using this
structure Tils (W : World) (A : Option Addr) (L : List TilH) : Prop where
  row : Row W A (tilV L)
  each : ∀ t ∈ L, TilAt W t.T t.A t.n t.c
theorem Tils.kept {W W' : World} {A : Option Addr} {L : List TilH} (h : Tils W A L) (hk : Kept W W') : Tils W' A L := ⟨h.row.kept hk, fun t ht => (h.each t ht).kept hk⟩
theorem Tils.at_ {W : World} {A : Option Addr} {L : List TilH} (h : Tils W A L) {k : Nat} {t : TilH} (hx : L[k]? = some t) :
    ∃ b off, A = some ⟨b, off, none⟩ ∧ W.cell? ⟨b, off + k * 5, none⟩ = some (.int .i64 t.T.x) ∧ W.cell? ⟨b, off + k * 5 + 1, none⟩ = some (.int .i64 t.T.y) ∧ W.cell? ⟨b, off + k * 5 + 2, none⟩ = some (.int .i64 t.T.a) ∧ W.cell? ⟨b, off + k * 5 + 3, none⟩ = some (.int .i64 t.T.d) ∧ W.cell? ⟨b, off + k * 5 + 4, none⟩ = some (.slice t.A t.n t.c) := by
  obtain ⟨h0, h1, h2, h3, h4⟩ := tilV_get L k t hx
  rcases h.row with h | ⟨b, off, hA, hc⟩
  · rw [h] at h0; simp at h0
  · exact ⟨b, off, hA, hc _ _ h0, by rw [Nat.add_assoc]; exact hc _ _ h1, by rw [Nat.add_assoc]; exact hc _ _ h2, by rw [Nat.add_assoc]; exact hc _ _ h3, by rw [Nat.add_assoc]; exact hc _ _ h4⟩
end Go.Proofs.Ytbhgcbgaadnfpaa
