/- A field that is a slice of bytes, opened with its datum; how great it may be. -/
import Derived.Test.YtbhgcbgaadnfpaaOpenB
import Derived.SizedLaws
namespace Go.Proofs.Ytbhgcbgaadnfpaa
open Go.ChangeShapes Go.WideShapes Go.ChangeAt Go.RowKit Go.Joins

theorem open_bytes2 {H : Type} {enc : TypeId × Value → H} {w : World} {base : Nat} {spare : Nat → Bool} {held : Bool} {fuel : Nat} {v : Value} {x : DataW H × List MemPlace}
    (h : DataW.trod enc Try.prog w base spare held fuel 22 [v] = some x) :
    ∃ (A : Option Addr) (n c : Nat) (g : List UInt8), v = .slice A n c ∧ n ≤ c ∧ c ≤ maxLen ∧ g.length = n ∧ Row w A (bytesV g) ∧ (n = 0 ∨ ∃ l r, x.1 = .slice l r ∧ l.length = n) := by
  obtain ⟨A, n, c, g, hv, h1, h2, h3, h4⟩ := open_bytes h
  refine ⟨A, n, c, g, hv, h1, h2, h3, h4, ?_⟩
  rcases open_ints Try.underlying22 Try.underlying5 cells_u8 h with ⟨hc, -⟩ | ⟨a, n', c', zs, hc, -, hl, hm, hz, hx, hcell, hwf⟩
  · subst hv
    injection hc with hc
    injection hc with _ hn _
    exact .inl hn
  · subst hv
    injection hc with hc
    injection hc with _ hn _
    refine .inr ⟨_, _, by rw [hx], ?_⟩
    have hzl : n' ≤ zs.length := by rw [hz]; split <;> omega
    simp [lits]; omega
/-- A picture's greys take no more than the form reaches. -/
theorem pic_reach {H : Type} {ts : List TypeId} {ds : List (DataW H)} (h : (DataW.weightsEach Try.prog ts ds).all (· ≤ reachBytes) = true) {j : Nat} {x0 x1 x2 : DataW H} {n : Nat} (ht : ts[j]? = some 24) (hd : ds[j]? = some (.agg [x0, x1, x2])) (hx : n = 0 ∨ ∃ l r, x2 = .slice l r ∧ l.length = n) : n + 1 ≤ 140737488355328 := by
  rcases hx with rfl | ⟨l, r, rfl, rfl⟩
  · omega
  · have := List.all_eq_true.1 h ((l.length + r.length) * Try.prog.bytesOf 5) (DataW.weights_mem_each ht hd _ (by
      simp [DataW.weights, DataW.weightsEach, Try.underlying24, Try.underlying22]))
    have hb : Try.prog.bytesOf 5 = 1 := by kernel_rfl
    rw [hb] at this
    simp [reachBytes] at this
    omega
end Go.Proofs.Ytbhgcbgaadnfpaa
