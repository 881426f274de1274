/- A field that is a slice of bytes, opened: what cells it has. -/
import Derived.Test.YtbhgcbgaadnfpaaPicY
import Derived.ProofKit
import Derived.OpenShut
import Derived.ShutString
import Derived.ChangeOld
import Derived.Lib.SmallJoins
import Derived.DataReads
namespace Go.Proofs.Ytbhgcbgaadnfpaa
open Go.ChangeShapes Go.WideShapes Go.ChangeAt Go.RowKit Go.Joins

theorem cells_u8 : Try.prog.cellsOf 5 = 1 := by kernel_rfl
theorem open_bytes {H : Type} {enc : TypeId × Value → H} {w : World} {base : Nat} {spare : Nat → Bool} {held : Bool} {fuel : Nat} {v : Value} {x : DataW H × List MemPlace}
    (h : DataW.trod enc Try.prog w base spare held fuel 22 [v] = some x) :
    ∃ (A : Option Addr) (n c : Nat) (g : List UInt8), v = .slice A n c ∧ n ≤ c ∧ c ≤ maxLen ∧ g.length = n ∧ Row w A (bytesV g) := by
  rcases open_ints Try.underlying22 Try.underlying5 cells_u8 h with ⟨hc, -⟩ | ⟨a, n, c, zs, hc, -, hl, hm, hz, -, hcell, hwf⟩
  · injection hc with hc
    exact ⟨none, 0, 0, [], hc, Nat.le_refl _, by simp [maxLen], rfl, Row.nil⟩
  · injection hc with hc
    have hzl : n ≤ zs.length := by rw [hz]; split <;> omega
    refine ⟨some a, n, c, (zs.take n).map fun z => UInt8.ofNat z.toNat, hc, hl, hm, by simp; omega, ?_⟩
    by_cases h0 : n = 0
    · left; subst h0; simp [bytesV]
    · right
      have hs : a.spot = none := World.cell?_spot (hcell 0 (by omega)) 
      refine ⟨a.block, a.off, by cases a; simp at hs; subst hs; rfl, fun k u hu => ?_⟩
      have hk : k < n := by
        have := (List.getElem?_eq_some_iff.1 hu).1
        simp [bytesV] at this; omega
      have hkz : k < zs.length := by omega
      have hc2 := hcell k hkz
      have ha : a.add k = ⟨a.block, a.off + k, none⟩ := by cases a; simp at hs; subst hs; exact add_zero_addr _ _ _
      rw [ha] at hc2
      rw [hc2, ← hu]
      have hb := bounds_u8 (hwf zs[k] (List.getElem_mem hkz))
      simp [bytesV, hk, hkz, List.getD]
      omega
end Go.Proofs.Ytbhgcbgaadnfpaa
