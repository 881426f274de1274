/- A picture's box that can be written. -/
import Derived.Test.YtbhgcbgaadnfpaaBesW
namespace Go.Proofs.Ytbhgcbgaadnfpaa
open Go.RowKit

theorem info_pic : (Try.prog.info? 24).map (fun i => (i.zero, i.size, i.bytes)) = some (some (.agg #[.int .i64 0, .int .i64 0, .slice none 0 0]), 3, 40) := by kernel_rfl
theorem below_len (ps : List PicD) (h : belowE ps = 0) : (belowP ps).g.length ≤ 4194304 := by
  cases ps with
  | nil => simp [belowE] at h
  | cons p ps =>
    by_cases h1 : allE (p :: ps) = 0
    · by_cases h2 : (p :: ps).all (fun q => q.a == p.a) = true
      · by_cases h3 : sizeB p.a (sumD (p :: ps)) = true
        · have hl := allG_length (a0 := p.a) (p :: ps) (fun q hq => by
            have h4 : q.a = p.a := by have := List.all_eq_true.1 h2 q hq; simpa using this
            obtain ⟨i, hi⟩ := List.getElem?_of_mem hq
            rw [(mayB_bounds (may_of_allE h1 hi)).2.2.2.2.1, h4])
          have := (sizeB_bounds h3).2.2.2.2.2
          simp only [belowP]; omega
        · simp only [belowE, h1, h2, if_true] at h; rw [if_neg h3] at h; omega
      · simp only [belowE, h1, if_true] at h; rw [if_neg h2] at h; omega
    · simp only [belowE] at h; rw [if_neg h1] at h; omega
theorem beside_len (ps : List PicD) (h : besideE ps = 0) : (besideP ps).g.length ≤ 4194304 := by
  cases ps with
  | nil => simp [besideE] at h
  | cons p ps =>
    by_cases h1 : allE (p :: ps) = 0
    · by_cases h2 : (p :: ps).all (fun q => q.d == p.d) = true
      · by_cases h3 : sizeB (sumA (p :: ps)) p.d = true
        · have hz := sizeB_bounds h3
          have hl := besideG_length (p :: ps) p.d.toNat (fun q hq => by
            have h4 : q.d = p.d := by have := List.all_eq_true.1 h2 q hq; simpa using this
            obtain ⟨i, hi⟩ := List.getElem?_of_mem hq
            have h5 := mayB_bounds (may_of_allE h1 hi)
            refine ⟨by omega, ?_⟩
            rw [h5.2.2.2.2.1, h4, Int.toNat_of_nonneg (by omega)]) p.d.toNat (Nat.le_refl _)
          rw [Int.toNat_of_nonneg (by omega), Int.mul_comm] at hl
          simp only [besideP, List.headD_cons]; omega
        · simp only [besideE, h1, h2, if_true] at h; rw [if_neg h3] at h; omega
      · simp only [besideE, h1, if_true] at h; rw [if_neg h2] at h; omega
    · simp only [besideE] at h; rw [if_neg h1] at h; omega
theorem crop_len (p : PicD) (c f s t : Int) (h : cropE p c f s t = 0) : (cropP p c f s t).g.length ≤ 4194304 := by
  by_cases h1 : p.may = true
  · by_cases h2 : cutB p.a p.d c f s t = true
    · obtain ⟨k1, k2, k3, k4, k5, k6, k7, k8⟩ := (cutB_iff _ _ _ _ _ _).1 h2
      obtain ⟨m1, m2, m3, m4, m5, m6, m7⟩ := mayB_bounds h1
      have hl : p.g.length = p.a.toNat * p.d.toNat := by
        have : ((p.g.length : Nat) : Int) = ((p.a.toNat * p.d.toNat : Nat) : Int) := by rw [m5, Int.natCast_mul, Int.toNat_of_nonneg (by omega), Int.toNat_of_nonneg (by omega)]
        omega
      have := cropG_length p.a.toNat c.toNat s.toNat p.d.toNat p.g f.toNat hl (by omega) t.toNat (by omega)
      have h5 : t.toNat * s.toNat ≤ p.d.toNat * p.a.toNat := Nat.mul_le_mul (by omega) (by omega)
      rw [Nat.mul_comm p.d.toNat, ← hl] at h5
      simp only [cropP]; omega
    · simp only [cropE, h1, if_true] at h; rw [if_neg h2] at h; omega
  · simp only [cropE] at h; rw [if_neg h1] at h; omega

/-! ### A picture's box that can be written -/
structure PBox (W : World) (b : Nat) (x y z : Value) : Prop where
  c0 : W.cell? ⟨b, 0, none⟩ = some x
  c1 : W.cell? ⟨b, 1, none⟩ = some y
  c2 : W.cell? ⟨b, 2, none⟩ = some z
  f0 : W.frozen? ⟨b, 0, none⟩ = false
  f1 : W.frozen? ⟨b, 1, none⟩ = false
  f2 : W.frozen? ⟨b, 2, none⟩ = false
theorem PBox.lt {W : World} {b : Nat} {x y z : Value} (h : PBox W b x y z) : b < W.heap.size := lt_of_cell h.c0
theorem PBox.new (W : World) (x y z : Value) (t : TypeId) (b : Nat) (hb : b = W.heap.size) : PBox (W.alloc (.cells #[x, y, z] t)) b x y z := by
  subst hb
  exact ⟨by simp, by simp, by simp, frozen_fresh _ _ _ _, frozen_fresh _ _ _ _, frozen_fresh _ _ _ _⟩
theorem PBox.kept {W W' : World} {b : Nat} {x y z : Value} (h : PBox W b x y z) (hk : Kept W W') : PBox W' b x y z :=
  ⟨(hk.cells _ _ h.lt).trans h.c0, (hk.cells _ _ h.lt).trans h.c1, (hk.cells _ _ h.lt).trans h.c2, (hk.thaw _ _ h.lt).trans h.f0, (hk.thaw _ _ h.lt).trans h.f1, (hk.thaw _ _ h.lt).trans h.f2⟩
theorem PBox.far {W W' : World} {b : Nat} {x y z : Value} {row : Option Nat} (h : PBox W b x y z) (hf : ∀ b o, b < W.heap.size → some b ≠ row → W'.cell? ⟨b, o, none⟩ = W.cell? ⟨b, o, none⟩ ∧ W'.frozen? ⟨b, o, none⟩ = W.frozen? ⟨b, o, none⟩) (hne : some b ≠ row) : PBox W' b x y z :=
  ⟨(hf _ _ h.lt hne).1.trans h.c0, (hf _ _ h.lt hne).1.trans h.c1, (hf _ _ h.lt hne).1.trans h.c2, (hf _ _ h.lt hne).2.trans h.f0, (hf _ _ h.lt hne).2.trans h.f1, (hf _ _ h.lt hne).2.trans h.f2⟩
/-- A picture stored whole. -/
def World.store3 (W : World) (b : Nat) (x y z : Value) : World := ((W.setCell ⟨b, 0, none⟩ x).setCell ⟨b, 1, none⟩ y).setCell ⟨b, 2, none⟩ z
theorem size_store3 (W : World) (b : Nat) (x y z : Value) : (World.store3 W b x y z).heap.size = W.heap.size := by simp [World.store3, World.setCell]
theorem PBox.stored {W : World} {b : Nat} {x y z : Value} (h : PBox W b x y z) (x' y' z' : Value) : PBox (World.store3 W b x' y' z') b x' y' z' := by
  unfold World.store3
  have k1 : (W.setCell ⟨b, 0, none⟩ x').cell? ⟨b, 1, none⟩ = some y := by rw [World.cell?_setCell_other _ _ _ _ (by simp)]; exact h.c1
  have k2 : ((W.setCell ⟨b, 0, none⟩ x').setCell ⟨b, 1, none⟩ y').cell? ⟨b, 2, none⟩ = some z := by rw [World.cell?_setCell_other _ _ _ _ (by simp), World.cell?_setCell_other _ _ _ _ (by simp)]; exact h.c2
  refine ⟨?_, ?_, ?_, ?_, ?_, ?_⟩
  · rw [World.cell?_setCell_other _ _ _ _ (by simp), World.cell?_setCell_other _ _ _ _ (by simp), World.cell?_setCell_same _ _ _ h.c0]
  · rw [World.cell?_setCell_other _ _ _ _ (by simp), World.cell?_setCell_same _ _ _ k1]
  · rw [World.cell?_setCell_same _ _ _ k2]
  · simp only [World.frozen?_setCell]; exact h.f0
  · simp only [World.frozen?_setCell]; exact h.f1
  · simp only [World.frozen?_setCell]; exact h.f2
theorem cell_store3 (W : World) (b : Nat) (x y z : Value) (b' o : Nat) (hne : b' ≠ b) : (World.store3 W b x y z).cell? ⟨b', o, none⟩ = W.cell? ⟨b', o, none⟩ ∧ (World.store3 W b x y z).frozen? ⟨b', o, none⟩ = W.frozen? ⟨b', o, none⟩ := by
  unfold World.store3
  have hn : ∀ k, (⟨b, k, none⟩ : Addr) ≠ ⟨b', o, none⟩ := fun k e => by injection e with e1; exact hne e1.symm
  refine ⟨?_, by simp only [World.frozen?_setCell]⟩
  rw [World.cell?_setCell_other _ _ _ _ (hn 2), World.cell?_setCell_other _ _ _ _ (hn 1), World.cell?_setCell_other _ _ _ _ (hn 0)]
theorem PBox.beside {W : World} {b b' : Nat} {x y z : Value} (h : PBox W b x y z) (hne : b ≠ b') (x' y' z' : Value) : PBox (World.store3 W b' x' y' z') b x y z :=
  ⟨(cell_store3 W b' x' y' z' b 0 hne).1.trans h.c0, (cell_store3 W b' x' y' z' b 1 hne).1.trans h.c1, (cell_store3 W b' x' y' z' b 2 hne).1.trans h.c2, (cell_store3 W b' x' y' z' b 0 hne).2.trans h.f0, (cell_store3 W b' x' y' z' b 1 hne).2.trans h.f1, (cell_store3 W b' x' y' z' b 2 hne).2.trans h.f2⟩
theorem Own.beside {W : World} {base size n b' : Nat} {v : Value} {xs : List Value} (h : Own W base size v n xs) (hne : ∀ k, v.ownBlock = some k → k ≠ b') (x' y' z' : Value) : Own (World.store3 W b' x' y' z') base size v n xs :=
  ((h.far (p := ⟨b', 0, none⟩) hne _).far (p := ⟨b', 1, none⟩) hne _).far (p := ⟨b', 2, none⟩) hne _
theorem Below.store3 {B b' : Nat} {W X : World} (h : Below B W X) (hb : B ≤ b') (x y z : Value) : Below B W (World.store3 X b' x y z) := ((h.setCell hb _).setCell hb _).setCell hb _
end Go.Proofs.Ytbhgcbgaadnfpaa
