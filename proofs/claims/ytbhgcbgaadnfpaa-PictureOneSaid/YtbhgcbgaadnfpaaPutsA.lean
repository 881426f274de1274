/- Pictures lent: the slice of the law's own pictures, each in memory of its own with a mark behind it; and what 'held' asks and leaves. -/
import Derived.Test.YtbhgcbgaadnfpaaRBeside
import Derived.Test.YtbhgcbgaadnfpaaRCrop
import Derived.Test.YtbhgcbgaadnfpaaGreysL
import Derived.Test.YtbhgcbgaadnfpaaKept
namespace Go.Proofs.Ytbhgcbgaadnfpaa
open Go.RowKit

theorem info_pic : (Try.prog.info? 24).map (fun i => (i.zero, i.size, i.bytes)) = some (some (.agg #[.int .i64 0, .int .i64 0, .slice none 0 0]), 3, 40) := by kernel_rfl

abbrev Ent := Option Addr × Nat
def ownV : List PicD → List Ent → List Value
  | p :: ps, e :: es => .int .i64 p.a :: .int .i64 p.d :: .slice e.1 p.g.length e.2 :: ownV ps es
  | _, _ => []
theorem ownV_length : ∀ (ps : List PicD) (es : List Ent), ps.length = es.length → (ownV ps es).length = es.length * 3
  | [], [], _ => rfl
  | p :: ps, e :: es, h => by
    simp only [ownV, List.length_cons]
    rw [ownV_length ps es (by simpa using h)]; omega
  | [], _ :: _, h => by simp at h
  | _ :: _, [], h => by simp at h
theorem ownV_snoc : ∀ (ps : List PicD) (es : List Ent) (p : PicD) (e : Ent), ps.length = es.length → ownV (ps ++ [p]) (es ++ [e]) = ownV ps es ++ [.int .i64 p.a, .int .i64 p.d, .slice e.1 p.g.length e.2]
  | [], [], _, _, _ => rfl
  | q :: ps, f :: es, p, e, h => by
    simp only [List.cons_append, ownV]
    rw [ownV_snoc ps es p e (by simpa using h)]
  | [], _ :: _, _, _, h => by simp at h
  | _ :: _, [], _, _, h => by simp at h
theorem ownV_get : ∀ (ps : List PicD) (es : List Ent) (k : Nat) (p : PicD) (e : Ent) (r : List Value), ps[k]? = some p → es[k]? = some e →
    (ownV ps es ++ r)[k * 3]? = some (.int .i64 p.a) ∧ (ownV ps es ++ r)[k * 3 + 1]? = some (.int .i64 p.d) ∧ (ownV ps es ++ r)[k * 3 + 2]? = some (.slice e.1 p.g.length e.2)
  | [], _, k, p, e, r, h, _ => by simp at h
  | _ :: _, [], k, p, e, r, _, h => by simp at h
  | q :: ps, f :: es, 0, p, e, r, h, h' => by
    simp at h h'; subst h; subst h'
    simp [ownV]
  | q :: ps, f :: es, k + 1, p, e, r, h, h' => by
    have := ownV_get ps es k p e r (by simpa using h) (by simpa using h')
    rw [show (k + 1) * 3 = k * 3 + 1 + 1 + 1 by omega]
    simpa [ownV, Nat.add_assoc] using this
theorem ownV_one : ∀ (ps : List PicD) (es : List Ent), ∀ u ∈ ownV ps es, u.oneCell' = true
  | p :: ps, e :: es, u, hu => by
    simp only [ownV, List.mem_cons] at hu
    rcases hu with rfl | rfl | rfl | hu
    · rfl
    · rfl
    · rfl
    · exact ownV_one ps es u hu
  | [], _, u, hu => by simp [ownV] at hu
  | _ :: _, [], u, hu => by simp [ownV] at hu

/-- What an entry is: the greys with the mark behind them, in memory of its own. -/
def LentAt (W : World) (base : Nat) (p : PicD) (e : Ent) : Prop := Own W base 1 (.slice e.1 (p.g.length + 1) e.2) (p.g.length + 1) (bytesV (p.g ++ [77]))

/-- The law's own pictures while they are put together. -/
structure LentTo (w : World) (ps : List PicD) (k : Nat) (v : Value) (es : List Ent) (W : World) : Prop where
  len : es.length = k
  own : Own W w.heap.size 3 v k (ownV (ps.take k) es)
  each : ∀ (i : Nat) (p : PicD) (e : Ent), ps[i]? = some p → es[i]? = some e → LentAt W w.heap.size p e ∧ ∀ b, (Value.slice e.1 (p.g.length + 1) e.2).ownBlock = some b → some b ≠ v.ownBlock
  kept : Kept w W

theorem LentTo.grow {w W W1 W2 : World} {ps : List PicD} {k : Nat} {v v' : Value} {es : List Ent} {p : PicD} {e : Ent} (h : LentTo w ps k v es W) (hp : ps[k]? = some p) (hk : k ≤ ps.length)
    (h1 : Kept W W1) (hb : w.heap.size ≤ W1.heap.size) (he : LentAt W1 W.heap.size p e) (hg : W1.grownBy W2 v.ownBlock) (ho : Own W2 w.heap.size 3 v' (k + 1) (ownV (ps.take k) es ++ [.int .i64 p.a, .int .i64 p.d, .slice e.1 p.g.length e.2]))
    (hv : v'.ownBlock = v.ownBlock ∨ ∀ x, v'.ownBlock = some x → W1.heap.size ≤ x) : LentTo w ps (k + 1) v' (es ++ [e]) W2 := by
  have hvW : ∀ x, v.ownBlock = some x → x < W.heap.size := fun x hx => (h.own.lt x hx).2
  have hkW := h.kept.size
  refine ⟨by simp [h.len], ?_, fun i q f hq hf => ?_, ?_⟩
  · rw [take_next hp, ownV_snoc _ _ _ _ (by rw [h.len, List.length_take]; omega)]
    exact ho
  · by_cases hi : i < k
    · rw [List.getElem?_append_left (by rw [h.len]; exact hi)] at hf
      obtain ⟨ha, hn⟩ := h.each i q f hq hf
      refine ⟨(ha.kept h1).grown hg (fun x hx => hn x hx), fun b hb' => ?_⟩
      rcases hv with hv | hv
      · rw [hv]; exact hn b hb'
      · intro e1
        have := hv b e1.symm
        have h2 := (ha.lt b hb').2
        have := h1.size
        omega
    · have hik : i = k := by
        have := (List.getElem?_eq_some_iff.1 hf).1
        simp [h.len] at this; omega
      subst hik
      rw [List.getElem?_append_right (by rw [h.len]; exact Nat.le_refl _), h.len, Nat.sub_self] at hf
      simp at hf; subst hf
      rw [hp] at hq; injection hq with hq; subst hq
      have hne : ∀ x, (Value.slice e.1 (p.g.length + 1) e.2).ownBlock = some x → some x ≠ v.ownBlock := fun x hx e1 => by
        have h2 := (Own.lt he x hx).1
        have h3 := hvW x e1.symm
        omega
      refine ⟨(Own.grown he hg hne).less (by omega), fun b hb' => ?_⟩
      rcases hv with hv | hv
      · rw [hv]; exact hne b hb'
      · intro e1
        have h2 := hv b e1.symm
        have h3 := (Own.lt he b hb').2
        omega
  · exact (h.kept.trans (h1.mono hkW)).grown hg (by omega) (fun k hk => by have := (h.own.lt k hk).1; omega)

/-- All of them, the last mark too: what later calls read. -/
structure LentAll (N0 : Nat) (ps : List PicD) (OA : Option Addr) (oc : Nat) (es : List Ent) (W : World) : Prop where
  len : es.length = ps.length
  cap : ps.length + 1 ≤ oc
  row : Row W OA (ownV ps es ++ [.int .i64 (-7), .int .i64 0, .slice none 0 0])
  lt : ∀ b off, OA = some ⟨b, off, none⟩ → b < N0
  each : ∀ (i : Nat) (p : PicD) (e : Ent), ps[i]? = some p → es[i]? = some e → ∃ base, LentAt W base p e ∧ ∀ b, (Value.slice e.1 (p.g.length + 1) e.2).ownBlock = some b → b < N0
  bnd : ∀ p ∈ ps, -9223372036854775808 ≤ p.a ∧ p.a ≤ 9223372036854775807 ∧ -9223372036854775808 ≤ p.d ∧ p.d ≤ 9223372036854775807 ∧ p.g.length + 1 ≤ 140737488355328
theorem LentAll.move {N0 : Nat} {ps : List PicD} {OA : Option Addr} {oc : Nat} {es : List Ent} {W W' : World} (h : LentAll N0 ps OA oc es W) (hb : Below N0 W W') : LentAll N0 ps OA oc es W' := by
  refine ⟨h.len, h.cap, ?_, h.lt, fun i p e hp he => ?_, h.bnd⟩
  · rcases h.row with hr | ⟨b, off, hA, hc⟩
    · exact .inl hr
    · exact .inr ⟨b, off, hA, fun k u hu => (hb.cell (p := ⟨b, off + k, none⟩) (h.lt b off hA)).trans (hc k u hu)⟩
  · obtain ⟨base, ha, hn⟩ := h.each i p e hp he
    exact ⟨base, Own.keep ha hb.size (fun g hg o => ⟨hb.cell (p := ⟨g, o, none⟩) (hn g hg), hb.frozen (p := ⟨g, o, none⟩) (hn g hg)⟩), hn⟩
theorem LentAll.pic {N0 : Nat} {ps : List PicD} {OA : Option Addr} {oc : Nat} {es : List Ent} {W : World} (h : LentAll N0 ps OA oc es W) {i : Nat} {p : PicD} (hp : ps[i]? = some p) :
    ∃ (b off : Nat) (e : Ent), OA = some ⟨b, off, none⟩ ∧ es[i]? = some e ∧ W.cell? ⟨b, off + i * 3, none⟩ = some (.int .i64 p.a) ∧ W.cell? ⟨b, off + i * 3 + 1, none⟩ = some (.int .i64 p.d) ∧ W.cell? ⟨b, off + i * 3 + 2, none⟩ = some (.slice e.1 p.g.length e.2) ∧ PicAt W p e.1 p.g.length e.2 ∧
      ∃ base, Own W base 1 (.slice e.1 (p.g.length + 1) e.2) (p.g.length + 1) (bytesV (p.g ++ [77])) := by
  obtain ⟨e, he⟩ : ∃ e, es[i]? = some e := ⟨_, List.getElem?_eq_getElem (by rw [h.len]; exact (List.getElem?_eq_some_iff.1 hp).1)⟩
  obtain ⟨base, ha, -⟩ := h.each i p e hp he
  obtain ⟨g0, g1, g2⟩ := ownV_get ps es i p e [.int .i64 (-7), .int .i64 0, .slice none 0 0] hp he
  rcases h.row with hr | ⟨b, off, hA, hc⟩
  · rw [hr] at g0; simp at g0
  have hb := h.bnd p (List.mem_of_getElem? hp)
  have hcap : p.g.length + 1 ≤ e.2 := by obtain ⟨A', c', hv, h1, -, -, -, -⟩ := Own.form ha; injection hv with _ _ h3; omega
  have hrow : Row W e.1 (bytesV p.g) := by
    have h9 := (Own.row ha).take p.g.length
    rw [bytesV_take, List.take_append_of_le_length (Nat.le_refl _), List.take_of_length_le (Nat.le_refl _)] at h9
    exact h9
  exact ⟨b, off, e, hA, he, hc _ _ g0, by rw [Nat.add_assoc]; exact hc _ _ g1, by rw [Nat.add_assoc]; exact hc _ _ g2, ⟨rfl, by omega, by omega, hrow, hb.1, hb.2.1, hb.2.2.1, hb.2.2.2.1⟩, base, ha⟩
theorem LentAll.pics {N0 : Nat} {ps : List PicD} {OA : Option Addr} {oc : Nat} {es : List Ent} {W : World} (h : LentAll N0 ps OA oc es W) : Pics W OA ps := by
  rcases h.row with hr | ⟨b, off, hA, hc⟩
  · simp at hr
  · refine .inr ⟨b, off, hA, fun k p hp => ?_⟩
    obtain ⟨b', off', e, hA', -, c0, c1, c2, hp', -⟩ := h.pic hp
    rw [hA] at hA'
    injection hA' with hA'
    injection hA' with e1 e2
    subst e1; subst e2
    exact ⟨e.1, _, e.2, c0, c1, c2, hp'⟩
theorem LentAll.last {N0 : Nat} {ps : List PicD} {OA : Option Addr} {oc : Nat} {es : List Ent} {W : World} (h : LentAll N0 ps OA oc es W) : ∃ b off, OA = some ⟨b, off, none⟩ ∧ W.cell? ⟨b, off + ps.length * 3, none⟩ = some (.int .i64 (-7)) := by
  rcases h.row with hr | ⟨b, off, hA, hc⟩
  · simp at hr
  · refine ⟨b, off, hA, hc _ _ ?_⟩
    rw [List.getElem?_append_right (by rw [ownV_length _ _ h.len.symm, h.len]; exact Nat.le_refl _), ownV_length _ _ h.len.symm, h.len, Nat.sub_self]
    rfl

/-! ### How long what comes out is -/
theorem outG_le (E : Int) (P : PicD) (h : E = 0 → P.g.length ≤ 4194304) : (outG E P).length ≤ 4194304 := by
  unfold outG; split
  · exact h (by assumption)
  · simp
theorem below_len (ps : List PicD) (h : belowE ps = 0) : (belowP ps).g.length ≤ 4194304 := by
  cases ps with
  | nil => simp [belowE] at h
  | cons p ps =>
    by_cases h1 : allE (p :: ps) = 0
    · by_cases h2 : (p :: ps).all (fun q => q.a == p.a) = true
      · by_cases h3 : sizeB p.a (sumD (p :: ps)) = true
        · have hl := allG_length (a0 := p.a) (p :: ps) (fun q hq => by
            have h4 : q.a = p.a := by have := List.all_eq_true.1 h2 q hq; simpa using this
            obtain ⟨i, hi⟩ := List.getElem?_of_mem hq
            rw [(mayB_bounds (may_of_allE h1 hi)).2.2.2.2.1, h4])
          have := (sizeB_bounds h3).2.2.2.2.2
          simp only [belowP]; omega
        · simp only [belowE, h1, h2, if_true] at h; rw [if_neg h3] at h; omega
      · simp only [belowE, h1, if_true] at h; rw [if_neg h2] at h; omega
    · simp only [belowE] at h; rw [if_neg h1] at h; omega
theorem beside_len (ps : List PicD) (h : besideE ps = 0) : (besideP ps).g.length ≤ 4194304 := by
  cases ps with
  | nil => simp [besideE] at h
  | cons p ps =>
    by_cases h1 : allE (p :: ps) = 0
    · by_cases h2 : (p :: ps).all (fun q => q.d == p.d) = true
      · by_cases h3 : sizeB (sumA (p :: ps)) p.d = true
        · have hz := sizeB_bounds h3
          have hl := besideG_length (p :: ps) p.d.toNat (fun q hq => by
            have h4 : q.d = p.d := by have := List.all_eq_true.1 h2 q hq; simpa using this
            obtain ⟨i, hi⟩ := List.getElem?_of_mem hq
            have h5 := mayB_bounds (may_of_allE h1 hi)
            refine ⟨by omega, ?_⟩
            rw [h5.2.2.2.2.1, h4, Int.toNat_of_nonneg (by omega)]) p.d.toNat (Nat.le_refl _)
          rw [Int.toNat_of_nonneg (by omega), Int.mul_comm] at hl
          simp only [besideP, List.headD_cons]; omega
        · simp only [besideE, h1, h2, if_true] at h; rw [if_neg h3] at h; omega
      · simp only [besideE, h1, if_true] at h; rw [if_neg h2] at h; omega
    · simp only [besideE] at h; rw [if_neg h1] at h; omega
theorem crop_len (p : PicD) (c f s t : Int) (h : cropE p c f s t = 0) : (cropP p c f s t).g.length ≤ 4194304 := by
  by_cases h1 : p.may = true
  · by_cases h2 : cutB p.a p.d c f s t = true
    · obtain ⟨k1, k2, k3, k4, k5, k6, k7, k8⟩ := (cutB_iff _ _ _ _ _ _).1 h2
      obtain ⟨m1, m2, m3, m4, m5, m6, m7⟩ := mayB_bounds h1
      have hl : p.g.length = p.a.toNat * p.d.toNat := by
        have : ((p.g.length : Nat) : Int) = ((p.a.toNat * p.d.toNat : Nat) : Int) := by rw [m5, Int.natCast_mul, Int.toNat_of_nonneg (by omega), Int.toNat_of_nonneg (by omega)]
        omega
      have := cropG_length p.a.toNat c.toNat s.toNat p.d.toNat p.g f.toNat hl (by omega) t.toNat (by omega)
      have h5 : t.toNat * s.toNat ≤ p.d.toNat * p.a.toNat := Nat.mul_le_mul (by omega) (by omega)
      rw [Nat.mul_comm p.d.toNat, ← hl] at h5
      simp only [cropP]; omega
    · simp only [cropE, h1, if_true] at h; rw [if_neg h2] at h; omega
  · simp only [cropE] at h; rw [if_neg h1] at h; omega

/-! ### A picture's box that can be written -/
structure PBox (W : World) (b : Nat) (x y z : Value) : Prop where
  c0 : W.cell? ⟨b, 0, none⟩ = some x
  c1 : W.cell? ⟨b, 1, none⟩ = some y
  c2 : W.cell? ⟨b, 2, none⟩ = some z
  f0 : W.frozen? ⟨b, 0, none⟩ = false
  f1 : W.frozen? ⟨b, 1, none⟩ = false
  f2 : W.frozen? ⟨b, 2, none⟩ = false
theorem PBox.lt {W : World} {b : Nat} {x y z : Value} (h : PBox W b x y z) : b < W.heap.size := lt_of_cell h.c0
theorem PBox.new (W : World) (x y z : Value) (t : TypeId) (b : Nat) (hb : b = W.heap.size) : PBox (W.alloc (.cells #[x, y, z] t)) b x y z := by
  subst hb
  exact ⟨by simp, by simp, by simp, frozen_fresh _ _ _ _, frozen_fresh _ _ _ _, frozen_fresh _ _ _ _⟩
theorem PBox.kept {W W' : World} {b : Nat} {x y z : Value} (h : PBox W b x y z) (hk : Kept W W') : PBox W' b x y z :=
  ⟨(hk.cells _ _ h.lt).trans h.c0, (hk.cells _ _ h.lt).trans h.c1, (hk.cells _ _ h.lt).trans h.c2, (hk.thaw _ _ h.lt).trans h.f0, (hk.thaw _ _ h.lt).trans h.f1, (hk.thaw _ _ h.lt).trans h.f2⟩
theorem PBox.far {W W' : World} {b : Nat} {x y z : Value} {row : Option Nat} (h : PBox W b x y z) (hf : ∀ b o, b < W.heap.size → some b ≠ row → W'.cell? ⟨b, o, none⟩ = W.cell? ⟨b, o, none⟩ ∧ W'.frozen? ⟨b, o, none⟩ = W.frozen? ⟨b, o, none⟩) (hne : some b ≠ row) : PBox W' b x y z :=
  ⟨(hf _ _ h.lt hne).1.trans h.c0, (hf _ _ h.lt hne).1.trans h.c1, (hf _ _ h.lt hne).1.trans h.c2, (hf _ _ h.lt hne).2.trans h.f0, (hf _ _ h.lt hne).2.trans h.f1, (hf _ _ h.lt hne).2.trans h.f2⟩
/-- A picture stored whole. -/
def World.store3 (W : World) (b : Nat) (x y z : Value) : World := ((W.setCell ⟨b, 0, none⟩ x).setCell ⟨b, 1, none⟩ y).setCell ⟨b, 2, none⟩ z
theorem size_store3 (W : World) (b : Nat) (x y z : Value) : (World.store3 W b x y z).heap.size = W.heap.size := by simp [World.store3, World.setCell]
theorem PBox.stored {W : World} {b : Nat} {x y z : Value} (h : PBox W b x y z) (x' y' z' : Value) : PBox (World.store3 W b x' y' z') b x' y' z' := by
  unfold World.store3
  have k1 : (W.setCell ⟨b, 0, none⟩ x').cell? ⟨b, 1, none⟩ = some y := by rw [World.cell?_setCell_other _ _ _ _ (by simp)]; exact h.c1
  have k2 : ((W.setCell ⟨b, 0, none⟩ x').setCell ⟨b, 1, none⟩ y').cell? ⟨b, 2, none⟩ = some z := by rw [World.cell?_setCell_other _ _ _ _ (by simp), World.cell?_setCell_other _ _ _ _ (by simp)]; exact h.c2
  refine ⟨?_, ?_, ?_, ?_, ?_, ?_⟩
  · rw [World.cell?_setCell_other _ _ _ _ (by simp), World.cell?_setCell_other _ _ _ _ (by simp), World.cell?_setCell_same _ _ _ h.c0]
  · rw [World.cell?_setCell_other _ _ _ _ (by simp), World.cell?_setCell_same _ _ _ k1]
  · rw [World.cell?_setCell_same _ _ _ k2]
  · simp only [World.frozen?_setCell]; exact h.f0
  · simp only [World.frozen?_setCell]; exact h.f1
  · simp only [World.frozen?_setCell]; exact h.f2
theorem cell_store3 (W : World) (b : Nat) (x y z : Value) (b' o : Nat) (hne : b' ≠ b) : (World.store3 W b x y z).cell? ⟨b', o, none⟩ = W.cell? ⟨b', o, none⟩ ∧ (World.store3 W b x y z).frozen? ⟨b', o, none⟩ = W.frozen? ⟨b', o, none⟩ := by
  unfold World.store3
  have hn : ∀ k, (⟨b, k, none⟩ : Addr) ≠ ⟨b', o, none⟩ := fun k e => by injection e with e1; exact hne e1.symm
  refine ⟨?_, by simp only [World.frozen?_setCell]⟩
  rw [World.cell?_setCell_other _ _ _ _ (hn 2), World.cell?_setCell_other _ _ _ _ (hn 1), World.cell?_setCell_other _ _ _ _ (hn 0)]
theorem PBox.beside {W : World} {b b' : Nat} {x y z : Value} (h : PBox W b x y z) (hne : b ≠ b') (x' y' z' : Value) : PBox (World.store3 W b' x' y' z') b x y z :=
  ⟨(cell_store3 W b' x' y' z' b 0 hne).1.trans h.c0, (cell_store3 W b' x' y' z' b 1 hne).1.trans h.c1, (cell_store3 W b' x' y' z' b 2 hne).1.trans h.c2, (cell_store3 W b' x' y' z' b 0 hne).2.trans h.f0, (cell_store3 W b' x' y' z' b 1 hne).2.trans h.f1, (cell_store3 W b' x' y' z' b 2 hne).2.trans h.f2⟩
theorem Own.beside {W : World} {base size n b' : Nat} {v : Value} {xs : List Value} (h : Own W base size v n xs) (hne : ∀ k, v.ownBlock = some k → k ≠ b') (x' y' z' : Value) : Own (World.store3 W b' x' y' z') base size v n xs :=
  ((h.far (p := ⟨b', 0, none⟩) hne _).far (p := ⟨b', 1, none⟩) hne _).far (p := ⟨b', 2, none⟩) hne _
theorem Below.store3 {B b' : Nat} {W X : World} (h : Below B W X) (hb : B ≤ b') (x y z : Value) : Below B W (World.store3 X b' x y z) := ((h.setCell hb _).setCell hb _).setCell hb _

theorem held_puts (xa xd : Int) (xm : Nat) (xg : List UInt8) (hx : xg.length = xm) (h4 : xm ≤ 4194304) (A1 A2 A3 : Option Addr) (c1 c2 c3 b1 b2 b3 : Nat) (X : World)
    (O1 : Own X b1 1 (.slice A1 xm c1) xm (bytesV xg)) (O2 : Own X b2 1 (.slice A2 xm c2) xm (bytesV xg)) (O3 : Own X b3 1 (.slice A3 xm c3) xm (bytesV xg))
    (l2 : ∀ k, (Value.slice A1 xm c1).ownBlock = some k → k < b2) (l3 : ∀ k, (Value.slice A1 xm c1).ownBlock = some k → k < b3) (hb : b1 ≤ X.heap.size) :
    Calls Try.prog 17 #[.agg #[.int .i64 xa, .int .i64 xd, .slice A1 xm c1], .agg #[.int .i64 xa, .int .i64 xd, .slice A2 xm c2], .agg #[.int .i64 xa, .int .i64 xd, .slice A3 xm c3]] X fun e w' => e = .returned (.bool true) ∧ Below b1 X w' ∧
      ∀ b o, b < X.heap.size → some b ≠ (Value.slice A1 xm c1).ownBlock → w'.cell? ⟨b, o, none⟩ = X.cell? ⟨b, o, none⟩ ∧ w'.frozen? ⟨b, o, none⟩ = X.frozen? ⟨b, o, none⟩ :=
  held_more xa xd A1 A2 A3 xm c1 c2 c3 b1 xg X h4 hx hb O1 O2.row O3.row
    (fun _ b off hB e => by have h1 := l2 b e.symm; have h2 := (O2.lt b (by rw [hB]; rfl)).1; omega)
    (fun _ b off hC e => by have h1 := l3 b e.symm; have h2 := (O3.lt b (by rw [hC]; rfl)).1; omega)

/-- A call whose answer is a picture and an error. -/
def Puts (xa xd : Int) (xm : Nat) (xg : List UInt8) (xE : Int) (W : World) (e : Ending) (w' : World) : Prop :=
  ∃ (A : Option Addr) (c : Nat), e = .returned (.tuple #[.agg #[.int .i64 xa, .int .i64 xd, .slice A xm c], .int .i64 xE]) ∧ Own w' W.heap.size 1 (.slice A xm c) xm (bytesV xg) ∧ Kept W w'
theorem PutPost.puts {w w' : World} {E : Int} {P : PicD} {e : Ending} (h : PutPost w E P e w') : Puts (outA E P) (outD E P) (outG E P).length (outG E P) E w e w' := h.out
end Go.Proofs.Ytbhgcbgaadnfpaa
