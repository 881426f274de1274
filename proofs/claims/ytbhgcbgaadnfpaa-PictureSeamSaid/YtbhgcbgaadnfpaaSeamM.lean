/- Words on memory for the law PictureSeam: the tiles and pictures that its first range gathers. -/
import Derived.Test.YtbhgcbgaadnfpaaJoinW
import Derived.Test.YtbhgcbgaadnfpaaRectsK
import Derived.Test.YtbhgcbgaadnfpaaRowsX
import Derived.Test.YtbhgcbgaadnfpaaSeamP
namespace Go.Proofs.Ytbhgcbgaadnfpaa
open Go.RowKit

/-! ### Steps that do not turn what is looked at -/
theorem Own.stable {w w' : World} {base size : Nat} {v : Value} {n : Nat} {xs : List Value} {row : Option Nat} (h : Own w base size v n xs) (hg : w.grownBy w' row) (hr : ∀ r, row = some r → ∃ o : Obj, w.heap[r]? = some o ∧ o.isCells = false) : Own w' base size v n xs := by
  refine ⟨h.1, ?_⟩
  rcases h.2 with h0 | ⟨g, off, cap, rfl, hb, hg', hnc, hcm, hx, hc⟩
  · exact .inl h0
  · refine .inr ⟨g, off, cap, rfl, hb, Nat.lt_of_lt_of_le hg' hg.size, hnc, hcm, fun j u hu => cell_kept (hx j u hu) hg hr, fun j hj => ?_⟩
    obtain ⟨v, hv⟩ := Option.isSome_iff_exists.1 (hc j hj).1
    exact ⟨by rw [cell_kept hv hg hr]; rfl, (frozen_kept hv hg hr).trans (hc j hj).2⟩
theorem Row.stable {w w' : World} {A : Option Addr} {xs : List Value} {row : Option Nat} (h : Row w A xs) (hg : w.grownBy w' row) (hr : ∀ r, row = some r → ∃ o : Obj, w.heap[r]? = some o ∧ o.isCells = false) : Row w' A xs := by
  rcases h with h | ⟨b, off, hA, hc⟩
  · exact .inl h
  · exact .inr ⟨b, off, hA, fun k u hu => cell_kept (hc k u hu) hg hr⟩
theorem Row.blocks {w w' : World} {A : Option Addr} {xs : List Value} (h : Row w A xs) (hk : ∀ b off, A = some ⟨b, off, none⟩ → w'.heap[b]? = w.heap[b]?) : Row w' A xs := by
  rcases h with h | ⟨b, off, hA, hc⟩
  · exact .inl h
  · exact .inr ⟨b, off, hA, fun k u hu => (World.cell?_of_block (a := ⟨b, off + k, none⟩) (hk b off hA)).trans (hc k u hu)⟩
theorem Own.blocks {w w' : World} {base size : Nat} {v : Value} {n : Nat} {xs : List Value} (h : Own w base size v n xs) (hs : w.heap.size ≤ w'.heap.size) (hk : ∀ k, v.ownBlock = some k → w'.heap[k]? = w.heap[k]?) : Own w' base size v n xs :=
  h.keep hs fun g hg o => ⟨World.cell?_of_block (a := ⟨g, o, none⟩) (hk g hg), World.frozen?_of_block (a := ⟨g, o, none⟩) (hk g hg)⟩
theorem TilAt.row' {W W' : World} {T : TilD} {A : Option Addr} {n c : Nat} (h : TilAt W T A n c) (hr : Row W' A (witV T.c)) : TilAt W' T A n c := { h with row := hr }
theorem PicAt.row' {W W' : World} {p : PicD} {A : Option Addr} {n c : Nat} (h : PicAt W p A n c) (hr : Row W' A (bytesV p.g)) : PicAt W' p A n c := { h with row := hr }

/-- A picture and the head of its bytes. -/
structure PicH where
  P : PicD
  A : Option Addr
  n : Nat
  c : Nat
def picVs : List PicH → List Value
  | [] => []
  | p :: l => .int .i64 p.P.a :: .int .i64 p.P.d :: .slice p.A p.n p.c :: picVs l
theorem picVs_length : ∀ l, (picVs l).length = l.length * 3
  | [] => rfl
  | x :: l => by simp [picVs, picVs_length l]; omega
theorem picVs_append : ∀ l k, picVs (l ++ k) = picVs l ++ picVs k
  | [], k => rfl
  | x :: l, k => by simp [picVs, picVs_append l k]
theorem picVs_get : ∀ (l : List PicH) (k : Nat) (t : PicH), l[k]? = some t → (picVs l)[k * 3]? = some (.int .i64 t.P.a) ∧ (picVs l)[k * 3 + 1]? = some (.int .i64 t.P.d) ∧ (picVs l)[k * 3 + 2]? = some (.slice t.A t.n t.c)
  | [], k, x, h => by simp at h
  | y :: l, 0, x, h => by
    simp at h; subst h
    simp [picVs]
  | y :: l, k + 1, x, h => by
    have := picVs_get l k x (by simpa using h)
    rw [show (k + 1) * 3 = k * 3 + 1 + 1 + 1 by omega]
    simpa [picVs, Nat.add_assoc] using this
theorem picVs_one : ∀ (l : List PicH), ∀ u ∈ picVs l, u.oneCell' = true
  | [], u, hu => by simp [picVs] at hu
  | x :: l, u, hu => by
    simp only [picVs, List.mem_cons] at hu
    rcases hu with rfl | rfl | rfl | hu
    · rfl
    · rfl
    · rfl
    · exact picVs_one l u hu
theorem tilV_one : ∀ (l : List TilH), ∀ u ∈ tilV l, u.oneCell' = true
  | [], u, hu => by simp [tilV] at hu
  | x :: l, u, hu => by
    simp only [tilV, List.mem_cons] at hu
    rcases hu with rfl | rfl | rfl | rfl | rfl | hu
    · rfl
    · rfl
    · rfl
    · rfl
    · rfl
    · exact tilV_one l u hu

/-- The block behind A is one of the call's own, and not one of the two rows that grow. -/
def Free (base : Nat) (W : World) (vt vp : Value) (A : Option Addr) : Prop := ∀ b off, A = some ⟨b, off, none⟩ → base ≤ b ∧ b < W.heap.size ∧ vt.ownBlock ≠ some b ∧ vp.ownBlock ≠ some b

/-- Tiles and their pictures, gathered in two rows of the call's own. -/
structure SeamI (g : GrD) (W : World) (base : Nat) (vt vp : Value) (TS : List TilH) (PS : List PicH) : Prop where
  ot : Own W base 5 vt TS.length (tilV TS)
  op : Own W base 3 vp PS.length (picVs PS)
  ne : ∀ k, vt.ownBlock = some k → vp.ownBlock ≠ some k
  ta : ∀ t ∈ TS, TilAt W t.T t.A t.n t.c ∧ Free base W vt vp t.A
  pa : ∀ p ∈ PS, PicAt W p.P p.A p.n p.c ∧ Free base W vt vp p.A
  pic : PS.map (·.P) = TS.map (·.T.pic)
  each : ∀ (k : Nat) (t : TilH), TS[k]? = some t → t.T.x = rectX g k ∧ t.T.y = rectY g k ∧ t.T.a = rectW g k ∧ t.T.d = rectH g k ∧ (t.n : Int) = rectW g k * rectH g k
  zt : TS = [] → vt.ownBlock = none
  zp : PS = [] → vp.ownBlock = none
theorem SeamI.nil (g : GrD) (W : World) (base : Nat) : SeamI g W base (.slice none 0 0) (.slice none 0 0) [] [] :=
  ⟨Own.nil _ _ _, Own.nil _ _ _, fun k h => by simp [Value.ownBlock] at h, by simp, by simp, rfl, fun k t h => by simp at h, fun _ => rfl, fun _ => rfl⟩
section
variable {g : GrD} {W W' : World} {base : Nat} {vt vp : Value} {TS : List TilH} {PS : List PicH}
theorem Free.size {A : Option Addr} (h : Free base W vt vp A) (hs : W.heap.size ≤ W'.heap.size) : Free base W' vt vp A := fun b off e => by
  obtain ⟨h1, h2, h3, h4⟩ := h b off e
  exact ⟨h1, Nat.lt_of_lt_of_le h2 hs, h3, h4⟩
theorem SeamI.same (h : SeamI g W base vt vp TS PS) (hs : W.heap.size ≤ W'.heap.size) (hk : ∀ b, base ≤ b → b < W.heap.size → W'.heap[b]? = W.heap[b]?) : SeamI g W' base vt vp TS PS :=
  ⟨h.ot.blocks hs fun k e => hk k (h.ot.lt k e).1 (h.ot.lt k e).2, h.op.blocks hs fun k e => hk k (h.op.lt k e).1 (h.op.lt k e).2, h.ne,
    fun t ht => ⟨(h.ta t ht).1.row' ((h.ta t ht).1.row.blocks fun b off e => hk b ((h.ta t ht).2 b off e).1 ((h.ta t ht).2 b off e).2.1), (h.ta t ht).2.size hs⟩,
    fun t ht => ⟨(h.pa t ht).1.row' ((h.pa t ht).1.row.blocks fun b off e => hk b ((h.pa t ht).2 b off e).1 ((h.pa t ht).2 b off e).2.1), (h.pa t ht).2.size hs⟩, h.pic, h.each, h.zt, h.zp⟩
theorem SeamI.kept (h : SeamI g W base vt vp TS PS) (hk : Kept W W') : SeamI g W' base vt vp TS PS := h.same hk.size fun b _ hb => hk.block b hb
theorem SeamI.low {p : Addr} (h : SeamI g W base vt vp TS PS) (hp : p.block < base) (u : Value) : SeamI g (W.setCell p u) base vt vp TS PS :=
  h.same (by simp [World.setCell]) fun b hb _ => Below.heap_setCell W p u b (by omega)
theorem SeamI.stable {row : Option Nat} (h : SeamI g W base vt vp TS PS) (hg : W.grownBy W' row) (hr : ∀ r, row = some r → ∃ o : Obj, W.heap[r]? = some o ∧ o.isCells = false) : SeamI g W' base vt vp TS PS :=
  ⟨h.ot.stable hg hr, h.op.stable hg hr, h.ne, fun t ht => ⟨(h.ta t ht).1.row' ((h.ta t ht).1.row.stable hg hr), (h.ta t ht).2.size hg.size⟩,
    fun t ht => ⟨(h.pa t ht).1.row' ((h.pa t ht).1.row.stable hg hr), (h.pa t ht).2.size hg.size⟩, h.pic, h.each, h.zt, h.zp⟩
end

/-- Between the two appends of a round: what grew from W0 on. -/
structure Mid (W0 W : World) (base : Nat) (vt vp vt1 vp1 : Value) (nt np : Nat) (xt xp : List Value) : Prop where
  size : W0.heap.size ≤ W.heap.size
  two : ∀ b, b < W0.heap.size → vt.ownBlock ≠ some b → vp.ownBlock ≠ some b → W.heap[b]? = W0.heap[b]?
  low : Below base W0 W
  ot : Own W base 5 vt1 nt xt
  op : Own W base 3 vp1 np xp
  ne : ∀ k, vt1.ownBlock = some k → vp1.ownBlock ≠ some k
  at_ : vt1.ownBlock = vt.ownBlock ∨ ∀ k, vt1.ownBlock = some k → W0.heap.size ≤ k
  ap : vp1.ownBlock = vp.ownBlock ∨ ∀ k, vp1.ownBlock = some k → W0.heap.size ≤ k
section
variable {g : GrD} {W0 W W' : World} {base nt np : Nat} {vt vp vt1 vp1 v2 : Value} {xt xp ys : List Value} {TS : List TilH} {PS : List PicH}
theorem Mid.start (h : SeamI g W0 base vt vp TS PS) : Mid W0 W0 base vt vp vt vp TS.length PS.length (tilV TS) (picVs PS) :=
  ⟨Nat.le_refl _, fun _ _ _ _ => rfl, Below.refl _ _, h.ot, h.op, h.ne, .inl rfl, .inl rfl⟩
theorem Mid.kept (h : Mid W0 W base vt vp vt1 vp1 nt np xt xp) (hb : base ≤ W.heap.size) (hk : Kept W W') : Mid W0 W' base vt vp vt1 vp1 nt np xt xp :=
  ⟨Nat.le_trans h.size hk.size, fun b hb' h1 h2 => (hk.block b (Nat.lt_of_lt_of_le hb' h.size)).trans (h.two b hb' h1 h2), h.low.trans (hk.mono hb), h.ot.kept hk, h.op.kept hk, h.ne, h.at_, h.ap⟩
theorem Mid.appT (h : Mid W0 W base vt vp vt1 vp1 nt np xt xp) (hb : base ≤ W.heap.size) (hg : W.grownBy W' vt1.ownBlock) (ho : Own W' base 5 v2 (nt + 1) (xt ++ ys)) (ha : v2.ownBlock = vt1.ownBlock ∨ ∀ k, v2.ownBlock = some k → W.heap.size ≤ k) :
    Mid W0 W' base vt vp v2 vp1 (nt + 1) np (xt ++ ys) xp := by
  refine ⟨Nat.le_trans h.size hg.size, fun b hb' h1 h2 => ?_, h.low.grown hg hb (fun k e => (h.ot.lt k e).1), ho, h.op.grown hg (fun k e e2 => h.ne k e2.symm e), fun k e e2 => ?_, ?_, h.ap⟩
  · refine (hg.block b (Nat.lt_of_lt_of_le hb' h.size) fun e => ?_).trans (h.two b hb' h1 h2)
    rcases h.at_ with h3 | h3
    · exact h1 (by rw [← h3, ← e])
    · have := h3 b e.symm; omega
  · rcases ha with h3 | h3
    · exact h.ne k (by rw [← h3, e]) e2
    · have := h3 k e
      have := (h.op.lt k e2).2
      omega
  · rcases ha with h3 | h3
    · rcases h.at_ with h4 | h4
      · exact .inl (h3.trans h4)
      · exact .inr fun k e => h4 k (by rw [← h3, e])
    · exact .inr fun k e => Nat.le_trans h.size (h3 k e)
theorem Mid.appP (h : Mid W0 W base vt vp vt1 vp1 nt np xt xp) (hb : base ≤ W.heap.size) (hg : W.grownBy W' vp1.ownBlock) (ho : Own W' base 3 v2 (np + 1) (xp ++ ys)) (ha : v2.ownBlock = vp1.ownBlock ∨ ∀ k, v2.ownBlock = some k → W.heap.size ≤ k) :
    Mid W0 W' base vt vp vt1 v2 nt (np + 1) xt (xp ++ ys) := by
  refine ⟨Nat.le_trans h.size hg.size, fun b hb' h1 h2 => ?_, h.low.grown hg hb (fun k e => (h.op.lt k e).1), h.ot.grown hg (fun k e e2 => h.ne k e e2.symm), ho, fun k e e2 => ?_, h.at_, ?_⟩
  · refine (hg.block b (Nat.lt_of_lt_of_le hb' h.size) fun e => ?_).trans (h.two b hb' h1 h2)
    rcases h.ap with h3 | h3
    · exact h2 (by rw [← h3, ← e])
    · have := h3 b e.symm; omega
  · rcases ha with h3 | h3
    · exact h.ne k e (by rw [← h3, e2])
    · have := h3 k e2
      have := (h.ot.lt k e).2
      omega
  · rcases ha with h3 | h3
    · rcases h.ap with h4 | h4
      · exact .inl (h3.trans h4)
      · exact .inr fun k e => h4 k (by rw [← h3, e])
    · exact .inr fun k e => Nat.le_trans h.size (h3 k e)
theorem Free.mid {A : Option Addr} (h : Mid W0 W base vt vp vt1 vp1 nt np xt xp) (hf : Free base W0 vt vp A) : Free base W vt1 vp1 A := fun b off e => by
  obtain ⟨h1, h2, h3, h4⟩ := hf b off e
  refine ⟨h1, Nat.lt_of_lt_of_le h2 h.size, fun e2 => ?_, fun e2 => ?_⟩
  · rcases h.at_ with h5 | h5
    · exact h3 (by rw [← h5, e2])
    · have := h5 b e2; omega
  · rcases h.ap with h5 | h5
    · exact h4 (by rw [← h5, e2])
    · have := h5 b e2; omega
theorem SeamI.snoc {t : TilH} {p : PicH} (h : SeamI g W0 base vt vp TS PS) (ht : TilAt W0 t.T t.A t.n t.c) (hft : Free base W0 vt vp t.A) (hp : PicAt W0 p.P p.A p.n p.c) (hfp : Free base W0 vt vp p.A)
    (hm : Mid W0 W base vt vp vt1 vp1 (TS.length + 1) (PS.length + 1) (tilV TS ++ tilV [t]) (picVs PS ++ picVs [p])) (hpic : p.P = t.T.pic)
    (he : t.T.x = rectX g TS.length ∧ t.T.y = rectY g TS.length ∧ t.T.a = rectW g TS.length ∧ t.T.d = rectH g TS.length ∧ (t.n : Int) = rectW g TS.length * rectH g TS.length) : SeamI g W base vt1 vp1 (TS ++ [t]) (PS ++ [p]) := by
  have row : ∀ {A : Option Addr} {xs : List Value}, Free base W0 vt vp A → Row W0 A xs → Row W A xs := fun hf hr => hr.blocks fun b off e => hm.two b (hf b off e).2.1 (hf b off e).2.2.1 (hf b off e).2.2.2
  refine ⟨by rw [tilV_append, List.length_append]; exact hm.ot, by rw [picVs_append, List.length_append]; exact hm.op, hm.ne, fun x hx => ?_, fun x hx => ?_, by rw [List.map_append, List.map_append, h.pic]; simp [hpic], fun k x hx => ?_, fun e => by simp at e, fun e => by simp at e⟩
  · rcases List.mem_append.1 hx with hx | hx
    · exact ⟨(h.ta x hx).1.row' (row (h.ta x hx).2 (h.ta x hx).1.row), (h.ta x hx).2.mid hm⟩
    · simp at hx; subst hx
      exact ⟨ht.row' (row hft ht.row), hft.mid hm⟩
  · rcases List.mem_append.1 hx with hx | hx
    · exact ⟨(h.pa x hx).1.row' (row (h.pa x hx).2 (h.pa x hx).1.row), (h.pa x hx).2.mid hm⟩
    · simp at hx; subst hx
      exact ⟨hp.row' (row hfp hp.row), hfp.mid hm⟩
  · by_cases hk : k < TS.length
    · rw [List.getElem?_append_left hk] at hx; exact h.each k x hx
    · have hkk : k = TS.length := by have := (List.getElem?_eq_some_iff.1 hx).1; simp at this; omega
      subst hkk
      rw [List.getElem?_append_right (Nat.le_refl _)] at hx
      simp at hx
      subst hx
      exact he
theorem SeamI.pics (h : SeamI g W base vt vp TS PS) : ∃ A c, vp = .slice A PS.length c ∧ PS.length ≤ c ∧ Pics W A (PS.map (·.P)) := by
  obtain ⟨A, c, hv, hc, _, hr, _⟩ := h.op.form
  refine ⟨A, c, hv, hc, ?_⟩
  rcases hr with hx | ⟨b, off, hA, hcell⟩
  · left
    have h1 := h.op.1
    rw [hx] at h1
    rw [List.eq_nil_of_length_eq_zero (l := PS) (by simp at h1; omega)]; rfl
  · refine .inr ⟨b, off, hA, fun k p hp => ?_⟩
    rw [List.getElem?_map] at hp
    cases hq : PS[k]? with
    | none => rw [hq] at hp; cases hp
    | some q =>
      rw [hq] at hp
      obtain rfl : q.P = p := by simpa using hp
      obtain ⟨h0, h1, h2⟩ := picVs_get PS k q hq
      exact ⟨q.A, q.n, q.c, hcell _ _ h0, by rw [Nat.add_assoc]; exact hcell _ _ h1, by rw [Nat.add_assoc]; exact hcell _ _ h2, (h.pa q (List.mem_of_getElem? hq)).1⟩
theorem SeamI.tils (h : SeamI g W base vt vp TS PS) : ∃ A c, vt = .slice A TS.length c ∧ TS.length ≤ c ∧ Tils W A TS := by
  obtain ⟨A, c, hv, hc, _, hr, _⟩ := h.ot.form
  exact ⟨A, c, hv, hc, hr, fun t ht => (h.ta t ht).1⟩
theorem SeamI.at_ (h : SeamI g W base vt vp TS PS) (hI : gridI g = 0) (hs : sizeB g.across g.down = true) (hN : (TS.length : Int) = gridA g * gridD g) : SeamAt g (TS.map (·.T)) :=
  ⟨hI, hs, by rw [List.length_map]; exact hN, fun k T hT => by
    rw [List.getElem?_map] at hT
    cases hq : TS[k]? with
    | none => rw [hq] at hT; cases hT
    | some t =>
      rw [hq] at hT
      obtain rfl : t.T = T := by simpa using hT
      obtain ⟨-, -, e3, e4, e5⟩ := h.each k t hq
      exact ⟨e3, e4, by rw [(h.ta t (List.mem_of_getElem? hq)).1.len]; exact e5⟩⟩
end

/-- What holds between rounds of the first range. -/
structure SeamB (X W : World) (g : GrD) (Bt Bp Bk base m : Nat) (TS : List TilH) (PS : List PicH) (vt vp : Value) (K : Nat) : Prop where
  ct : W.cell? ⟨Bt, 0, none⟩ = some vt
  cp : W.cell? ⟨Bp, 0, none⟩ = some vp
  ck : W.cell? ⟨Bk, 0, none⟩ = some (.int .i64 (K : Int))
  ft : W.frozen? ⟨Bt, 0, none⟩ = false
  fp : W.frozen? ⟨Bp, 0, none⟩ = false
  fk : W.frozen? ⟨Bk, 0, none⟩ = false
  own : SeamI g W base vt vp TS PS
  len : TS.length = m
  kb : K ≤ m * 4194304
  low : Below Bt X W
  bs : base ≤ W.heap.size
theorem SeamB.stable {X W W' : World} {g : GrD} {Bt Bp Bk base m : Nat} {TS : List TilH} {PS : List PicH} {vt vp : Value} {K : Nat} {row : Option Nat} (h : SeamB X W g Bt Bp Bk base m TS PS vt vp K) (hX : Bt ≤ X.heap.size) (hb : Bt ≤ base) (hg : W.grownBy W' row)
    (hr : ∀ r, row = some r → base ≤ r ∧ ∃ o : Obj, W.heap[r]? = some o ∧ o.isCells = false) : SeamB X W' g Bt Bp Bk base m TS PS vt vp K := by
  have hr' : ∀ r, row = some r → ∃ o : Obj, W.heap[r]? = some o ∧ o.isCells = false := fun r e => (hr r e).2
  exact ⟨cell_kept h.ct hg hr', cell_kept h.cp hg hr', cell_kept h.ck hg hr', (frozen_kept h.ct hg hr').trans h.ft, (frozen_kept h.cp hg hr').trans h.fp, (frozen_kept h.ck hg hr').trans h.fk, h.own.stable hg hr', h.len, h.kb,
    h.low.grown hg (Nat.le_trans hX h.low.size) (fun k e => Nat.le_trans hb (hr k e).1), Nat.le_trans h.bs hg.size⟩

/-- What holds between rounds of the loop that fills a tile. -/
structure SeamJ (W0 W : World) (Bk T13 : Nat) (x y u v : Int) (K j : Nat) (cs : List Wit) (vv : Value) : Prop where
  ck : W.cell? ⟨Bk, 0, none⟩ = some (.int .i64 ((K : Int) + (j : Int)))
  fk : W.frozen? ⟨Bk, 0, none⟩ = false
  b0 : W.cell? ⟨T13, 0, none⟩ = some (.int .i64 x)
  b1 : W.cell? ⟨T13, 1, none⟩ = some (.int .i64 y)
  b2 : W.cell? ⟨T13, 2, none⟩ = some (.int .i64 u)
  b3 : W.cell? ⟨T13, 3, none⟩ = some (.int .i64 v)
  b4 : W.cell? ⟨T13, 4, none⟩ = some vv
  f4 : W.frozen? ⟨T13, 4, none⟩ = false
  own : Own W (T13 + 1) 3 vv j (witV cs)
  len : cs.length = j
  ok : ∀ x ∈ cs, x.ok
  keep : W0.grownBy W (some Bk)
  lt : T13 < W.heap.size
theorem SeamJ.step {W0 W W1 W5 : World} {Bk T13 : Nat} {x y u v : Int} {K j : Nat} {cs : List Wit} {vv v5 : Value} {c : Wit} (h : SeamJ W0 W Bk T13 x y u v K j cs vv) (hT : T13 = W0.heap.size) (hB : Bk < T13) (h1 : Kept W W1) (hg : W1.grownBy W5 vv.ownBlock)
    (ho : Own W5 (T13 + 1) 3 v5 (j + 1) (witV cs ++ witV [c])) (hc : c.ok) : SeamJ W0 ((W5.setCell ⟨T13, 4, none⟩ v5).setCell ⟨Bk, 0, none⟩ (.int .i64 ((K : Int) + ((j + 1 : Nat) : Int)))) Bk T13 x y u v K (j + 1) (cs ++ [c]) v5 := by
  have hl1 : T13 < W1.heap.size := Nat.lt_of_lt_of_le h.lt h1.size
  have hne : ∀ b, b ≤ T13 → some b ≠ vv.ownBlock := fun b hb e => by have := (h.own.lt b e.symm).1; omega
  have cell5 : ∀ b o, b ≤ T13 → W5.cell? ⟨b, o, none⟩ = W.cell? ⟨b, o, none⟩ := fun b o hb => (hg.cell_far ⟨b, o, none⟩ (by show b < _; omega) (hne b hb)).trans (h1.cells _ _ (by have := h.lt; omega))
  have fr5 : ∀ b o, b ≤ T13 → W5.frozen? ⟨b, o, none⟩ = W.frozen? ⟨b, o, none⟩ := fun b o hb => (hg.frozen_far ⟨b, o, none⟩ (by show b < _; omega) (hne b hb)).trans (h1.thaw _ _ (by have := h.lt; omega))
  have farT : ∀ o, ((W5.setCell ⟨T13, 4, none⟩ v5).setCell ⟨Bk, 0, none⟩ (.int .i64 ((K : Int) + ((j + 1 : Nat) : Int)))).cell? ⟨T13, o, none⟩ = (W5.setCell ⟨T13, 4, none⟩ v5).cell? ⟨T13, o, none⟩ := fun o => World.cell?_setCell_other _ _ _ _ (fun e => by cases e; omega)
  have far4 : ∀ o, o ≠ 4 → (W5.setCell ⟨T13, 4, none⟩ v5).cell? ⟨T13, o, none⟩ = W.cell? ⟨T13, o, none⟩ := fun o ho => (World.cell?_setCell_other _ _ _ _ (fun e => ho (by cases e; rfl))).trans (cell5 T13 o (Nat.le_refl _))
  have hlt5 : T13 < W5.heap.size := Nat.lt_of_lt_of_le hl1 hg.size
  refine ⟨?_, ?_, (farT 0).trans ((far4 0 (by omega)).trans h.b0), (farT 1).trans ((far4 1 (by omega)).trans h.b1), (farT 2).trans ((far4 2 (by omega)).trans h.b2), (farT 3).trans ((far4 3 (by omega)).trans h.b3), ?_, ?_, ?_, by simp [h.len], ?_, ?_, by simpa [World.setCell] using hlt5⟩
  · have h9 : (W5.setCell ⟨T13, 4, none⟩ v5).cell? ⟨Bk, 0, none⟩ = some (.int .i64 ((K : Int) + (j : Int))) := by
      rw [World.cell?_setCell_other _ _ _ _ (fun e => by cases e), cell5 Bk 0 (by omega)]; exact h.ck
    exact World.cell?_setCell_same _ _ _ h9
  · rw [World.frozen?_setCell, World.frozen?_setCell, fr5 Bk 0 (by omega)]; exact h.fk
  · rw [farT 4]
    exact World.cell?_setCell_same _ _ _ ((cell5 T13 4 (Nat.le_refl _)).trans h.b4)
  · rw [World.frozen?_setCell, World.frozen?_setCell, fr5 T13 4 (Nat.le_refl _)]; exact h.f4
  · rw [witV_append]
    exact (ho.far (p := ⟨T13, 4, none⟩) (fun k e => by have := (ho.lt k e).1; show k ≠ T13; omega) _).far (p := ⟨Bk, 0, none⟩) (fun k e => by have := (ho.lt k e).1; show k ≠ Bk; omega) _
  · intro z hz
    rcases List.mem_append.1 hz with hz | hz
    · exact h.ok z hz
    · simp at hz; subst hz; exact hc
  · have g1 : W0.grownBy W1 (some Bk) := h.keep.trans ((kept_grown h1).but _)
    refine ⟨?_, ?_, ?_, ?_, ?_⟩
    · exact (hg.os).trans g1.os
    · exact (hg.tape).trans g1.tape
    · exact (hg.output).trans g1.output
    · have := g1.size; have := hg.size; simp [World.setCell]; omega
    · intro k hk hne9
      have hkB : k ≠ Bk := fun e => hne9 (by rw [e])
      rw [Below.heap_setCell _ ⟨Bk, 0, none⟩ _ k hkB, Below.heap_setCell _ ⟨T13, 4, none⟩ _ k (by show k ≠ T13; omega), hg.block k (by have := g1.size; omega) (hne k (by omega))]
      exact g1.block k hk hne9
theorem own_cells {w : World} {base size : Nat} {v : Value} {n : Nat} {xs : List Value} (h : Own w base size v n xs) (hn : 0 < n) (hsz : 0 < size) {k : Nat} (hk : v.ownBlock = some k) {o : Obj} (ho : w.heap[k]? = some o) : o.isCells = true := by
  have hl := h.1
  obtain ⟨u, hu⟩ : ∃ u, xs[0]? = some u := ⟨_, List.getElem?_eq_getElem (by rw [hl]; exact Nat.mul_pos hn hsz)⟩
  rcases h.2 with ⟨rfl, h0⟩ | ⟨g, off, cap, rfl, hb, hg', hnc, hcm, hx, hc⟩
  · omega
  · have hgk : g = k := by simpa [Value.ownBlock] using hk
    subst hgk
    have h1 := hx 0 u hu
    simp only [World.cell?, ho] at h1
    cases o <;> simp_all [Obj.isCells]
theorem info_tile : (Try.prog.info? 69).map (fun i => (i.zero, i.size, i.bytes)) = some (some (.agg #[.int .i64 0, .int .i64 0, .int .i64 0, .int .i64 0, .slice none 0 0]), 5, 56) := by kernel_rfl
/-- The end of a round. -/
theorem SeamB.close {X W W7 w7 : World} {g : GrD} {Bt Bp Bk Bs base m : Nat} {TS : List TilH} {PS : List PicH} {vt vp vt1 vp1 : Value} {K K' : Nat} {t : TilH} {p : PicH} (h : SeamB X W g Bt Bp Bk base m TS PS vt vp K)
    (o1 : Bt < Bp) (o2 : Bp < Bk) (o3 : Bk < Bs) (o4 : Bs < base) (hX : Bt ≤ X.heap.size) (hg7 : W.grownBy W7 (some Bk)) (ck : W7.cell? ⟨Bk, 0, none⟩ = some (.int .i64 (K' : Int))) (fk : W7.frozen? ⟨Bk, 0, none⟩ = false) (hI : SeamI g W7 base vt vp TS PS)
    (ht : TilAt W7 t.T t.A t.n t.c) (hft : Free base W7 vt vp t.A) (hp : PicAt W7 p.P p.A p.n p.c) (hfp : Free base W7 vt vp p.A)
    (hm : Mid W7 w7 base vt vp vt1 vp1 (TS.length + 1) (PS.length + 1) (tilV TS ++ tilV [t]) (picVs PS ++ picVs [p])) (hpic : p.P = t.T.pic)
    (he : t.T.x = rectX g m ∧ t.T.y = rectY g m ∧ t.T.a = rectW g m ∧ t.T.d = rectH g m ∧ (t.n : Int) = rectW g m * rectH g m) (hK : K' ≤ (m + 1) * 4194304) :
    KeepsFrom base W ((w7.setCell ⟨Bt, 0, none⟩ vt1).setCell ⟨Bp, 0, none⟩ vp1) ∧ BKeep Bs W ((w7.setCell ⟨Bt, 0, none⟩ vt1).setCell ⟨Bp, 0, none⟩ vp1) ∧
      SeamB X ((w7.setCell ⟨Bt, 0, none⟩ vt1).setCell ⟨Bp, 0, none⟩ vp1) g Bt Bp Bk base (m + 1) (TS ++ [t]) (PS ++ [p]) vt1 vp1 K' := by
  have hb7 : base ≤ W7.heap.size := Nat.le_trans h.bs hg7.size
  have hl7 := hm.low
  have c0 : ∀ b o, b < base → w7.cell? ⟨b, o, none⟩ = W7.cell? ⟨b, o, none⟩ := fun b o hb => hl7.cell (p := ⟨b, o, none⟩) hb
  have f0 : ∀ b o, b < base → w7.frozen? ⟨b, o, none⟩ = W7.frozen? ⟨b, o, none⟩ := fun b o hb => hl7.frozen (p := ⟨b, o, none⟩) hb
  have c7 : ∀ b, b < base → b ≠ Bk → W7.cell? ⟨b, 0, none⟩ = W.cell? ⟨b, 0, none⟩ := fun b hb hne => hg7.cell_far ⟨b, 0, none⟩ (by have := h.bs; show b < _; omega) (fun e => hne (by cases e; rfl))
  have f7 : ∀ b, b < base → b ≠ Bk → W7.frozen? ⟨b, 0, none⟩ = W.frozen? ⟨b, 0, none⟩ := fun b hb hne => hg7.frozen_far ⟨b, 0, none⟩ (by have := h.bs; show b < _; omega) (fun e => hne (by cases e; rfl))
  have st := (c0 Bt 0 (by omega)).trans ((c7 Bt (by omega) (by omega)).trans h.ct)
  have sp := (c0 Bp 0 (by omega)).trans ((c7 Bp (by omega) (by omega)).trans h.cp)
  have sp2 : (w7.setCell ⟨Bt, 0, none⟩ vt1).cell? ⟨Bp, 0, none⟩ = some vp := (World.cell?_setCell_other _ _ _ _ (fun e => by cases e; omega)).trans sp
  have hfin : ∀ b o, b ≠ Bt → b ≠ Bp → ((w7.setCell ⟨Bt, 0, none⟩ vt1).setCell ⟨Bp, 0, none⟩ vp1).cell? ⟨b, o, none⟩ = w7.cell? ⟨b, o, none⟩ := fun b o h1 h2 =>
    (World.cell?_setCell_other _ _ _ _ (fun e => h2 (by cases e; rfl))).trans (World.cell?_setCell_other _ _ _ _ (fun e => h1 (by cases e; rfl)))
  have hBel : Below Bt X ((w7.setCell ⟨Bt, 0, none⟩ vt1).setCell ⟨Bp, 0, none⟩ vp1) := by
    have b1 : Below Bt X W7 := h.low.grown hg7 (Nat.le_trans hX h.low.size) (fun k e => by cases e; omega)
    exact ((b1.trans (hl7.mono (by omega))).setCell (p := ⟨Bt, 0, none⟩) (Nat.le_refl _) _).setCell (p := ⟨Bp, 0, none⟩) (by show Bt ≤ Bp; omega) _
  refine ⟨?_, ?_, ?_⟩
  · have k1 : KeepsFrom base W W7 := KeepsFrom.of_grownBy hg7 (fun j e => by cases e; omega)
    have k2 : KeepsFrom base W7 w7 := ⟨hm.size, fun k o _ hk hc => (hm.two k (Array.getElem?_eq_some_iff.1 hk).1 (fun e => ?_) (fun e => ?_)).trans hk⟩
    · exact (k1.trans k2).trans (((KeepsOthers.setCell w7 ⟨Bt, 0, none⟩ vt1).from base).trans ((KeepsOthers.setCell _ ⟨Bp, 0, none⟩ vp1).from base))
    · have hne : TS ≠ [] := fun e2 => by rw [hI.zt e2] at e; cases e
      have := own_cells hI.ot (List.length_pos_iff.2 hne) (by omega) e hk
      rw [this] at hc; cases hc
    · have hne : PS ≠ [] := fun e2 => by rw [hI.zp e2] at e; cases e
      have := own_cells hI.op (List.length_pos_iff.2 hne) (by omega) e hk
      rw [this] at hc; cases hc
  · exact (((BKeep.grown hg7 (fun e => by cases e; omega)).trans (BKeep.of_below hl7 o4)).trans (BKeep.setCell (p := ⟨Bt, 0, none⟩) (by show Bs ≠ Bt; omega) _)).trans (BKeep.setCell (p := ⟨Bp, 0, none⟩) (by show Bs ≠ Bp; omega) _)
  · refine ⟨?_, World.cell?_setCell_same _ _ _ sp2, ?_, ?_, ?_, ?_, ?_, by rw [List.length_append, h.len]; rfl, hK, hBel, ?_⟩
    · rw [World.cell?_setCell_other _ _ _ _ (fun e => by cases e; omega)]
      exact World.cell?_setCell_same _ _ _ st
    · rw [hfin Bk 0 (by omega) (by omega), c0 Bk 0 (by omega)]; exact ck
    · rw [World.frozen?_setCell, World.frozen?_setCell, f0 Bt 0 (by omega), f7 Bt (by omega) (by omega)]; exact h.ft
    · rw [World.frozen?_setCell, World.frozen?_setCell, f0 Bp 0 (by omega), f7 Bp (by omega) (by omega)]; exact h.fp
    · rw [World.frozen?_setCell, World.frozen?_setCell, f0 Bk 0 (by omega)]; exact fk
    · rw [← h.len] at he
      exact (((hI.snoc ht hft hp hfp hm hpic he).low (p := ⟨Bt, 0, none⟩) (by show Bt < base; omega) _).low (p := ⟨Bp, 0, none⟩) (by show Bp < base; omega) _)
    · have := hm.size; simp [World.setCell]; omega
end Go.Proofs.Ytbhgcbgaadnfpaa
