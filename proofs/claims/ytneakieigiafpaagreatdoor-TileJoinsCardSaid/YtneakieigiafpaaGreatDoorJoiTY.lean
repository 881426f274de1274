/- JoiT, JoiY: texts of one claim laid together. -/
import Derived.Test.YtneakieigiafpaaGreatDoorTilX
import Derived.Outline
import Derived.Test.YtneakieigiafpaaGreatDoorJoiR
import Derived.Test.YtneakieigiafpaaGreatDoorTCx
/- Tiles lent: the law's own copies of a list of tiles, each in memory of its own. -/
namespace Go.Proofs.YtneakieigiafpaaGreatDoor
open Go.RowKit

abbrev TilH.blk (t : TilH) : Option Nat := (Value.slice t.A t.n t.c).ownBlock

/-- A store into what is owned, elements of several cells. -/
theorem Own.put {w : World} {base size n c g off : Nat} {xs : List Value} (h : Own w base size (.slice (some ⟨g, off, none⟩) n c) n xs) {j : Nat} (hj : j < n * size) (u : Value) : Own (w.setCell ⟨g, off + j, none⟩ u) base size (.slice (some ⟨g, off, none⟩) n c) n (xs.set j u) := by
  rcases h.2 with ⟨hv, _⟩ | ⟨g', off', cap, hv, hb, hg, hnc, hcm, hx, hc⟩
  · cases hv
  · injection hv with hA _ hcc
    injection hA with hA; injection hA with h1 h2
    subst h1; subst h2; subst hcc
    have hcs : n * size ≤ c * size := Nat.mul_le_mul_right _ hnc
    refine ⟨by simpa using h.1, .inr ⟨g, off, c, rfl, hb, by simpa [World.setCell] using hg, hnc, hcm, fun k v hk => ?_, fun k hk => ?_⟩⟩
    · by_cases hkj : k = j
      · subst hkj
        have hlen := h.1
        rw [List.getElem?_set_self (by omega)] at hk
        obtain ⟨o, ho⟩ := Option.isSome_iff_exists.1 (hc k (by omega)).1
        rw [World.cell?_setCell_same _ _ _ ho]
        exact hk
      · rw [List.getElem?_set_ne (Ne.symm hkj)] at hk
        rw [World.cell?_setCell_other _ _ _ _ (by first | (simp; done) | (simp; omega))]
        exact hx k v hk
    · rw [World.frozen?_setCell]
      refine ⟨?_, (hc k hk).2⟩
      by_cases hkj : k = j
      · subst hkj
        obtain ⟨o, ho⟩ := Option.isSome_iff_exists.1 (hc k hk).1
        rw [World.cell?_setCell_same _ _ _ ho]; rfl
      · rw [World.cell?_setCell_other _ _ _ _ (by first | (simp; done) | (simp; omega))]
        exact (hc k hk).1
theorem Own.cells {w : World} {base size n c g off : Nat} {xs : List Value} (h : Own w base size (.slice (some ⟨g, off, none⟩) n c) n xs) {j : Nat} (hj : j < n * size) : (∃ u, w.cell? ⟨g, off + j, none⟩ = some u) ∧ w.frozen? ⟨g, off + j, none⟩ = false := by
  rcases h.2 with ⟨hv, _⟩ | ⟨g', off', cap, hv, hb, hg, hnc, hcm, hx, hc⟩
  · cases hv
  · injection hv with hA _ hcc
    injection hA with hA; injection hA with h1 h2
    subst h1; subst h2; subst hcc
    have hcs : n * size ≤ c * size := Nat.mul_le_mul_right _ hnc
    exact ⟨Option.isSome_iff_exists.1 (hc j (by omega)).1, (hc j (by omega)).2⟩

/-- The law's own tiles while they are put together. -/
structure LTo (w : World) (Ts : List TilH) (k : Nat) (v : Value) (es : List TilH) (W : World) : Prop where
  same : es.map (fun t => (t.T, t.n)) = (Ts.take k).map (fun t => (t.T, t.n))
  own : Own W w.heap.size 5 v k (tilV es)
  each : ∀ t ∈ es, Own W w.heap.size 3 (.slice t.A t.n t.c) t.n (witV t.T.c)
  off : ∀ t ∈ es, ∀ b, t.blk = some b → some b ≠ v.ownBlock
  dist : ∀ (i j : Nat) (ti tj : TilH), i < j → es[i]? = some ti → es[j]? = some tj → ∀ b, ti.blk = some b → tj.blk ≠ some b
  kept : Kept w W
theorem LTo.nil (w : World) (Ts : List TilH) : LTo w Ts 0 (.slice none 0 0) [] w := ⟨by simp, Own.nil _ _ _, by simp, by simp, by simp, Below.refl _ _⟩
theorem LTo.len {w W : World} {Ts es : List TilH} {k : Nat} {v : Value} (h : LTo w Ts k v es W) (hk : k ≤ Ts.length) : es.length = k := by
  have := congrArg List.length h.same
  simp only [List.length_map, List.length_take] at this
  omega
theorem LTo.move {w W W' : World} {Ts es : List TilH} {k : Nat} {v : Value} (h : LTo w Ts k v es W) (hk : Kept W W') : LTo w Ts k v es W' :=
  ⟨h.same, h.own.kept hk, fun t ht => (h.each t ht).kept hk, h.off, h.dist, h.kept.trans (hk.mono h.kept.size)⟩
theorem LTo.grow {w W W1 W2 : World} {Ts es : List TilH} {k : Nat} {v v' : Value} {t : TilH} {A : Option Addr} {c : Nat} (h : LTo w Ts k v es W) (ht : Ts[k]? = some t) (h1 : Kept W W1)
    (he : Own W1 W.heap.size 3 (.slice A t.n c) t.n (witV t.T.c)) (hg : W1.grownBy W2 v.ownBlock) (ho : Own W2 w.heap.size 5 v' (k + 1) (tilV es ++ [.int .i64 t.T.x, .int .i64 t.T.y, .int .i64 t.T.a, .int .i64 t.T.d, .slice A t.n c]))
    (hv : v'.ownBlock = v.ownBlock ∨ ∀ x, v'.ownBlock = some x → W1.heap.size ≤ x) : LTo w Ts (k + 1) v' (es ++ [⟨t.T, A, t.n, c⟩]) W2 := by
  have hvW : ∀ x, v.ownBlock = some x → x < W.heap.size := fun x hx => (h.own.lt x hx).2
  have hkW := h.kept.size
  have hne : ∀ x, (Value.slice A t.n c).ownBlock = some x → some x ≠ v.ownBlock := fun x hx e1 => by
    have h2 := (Own.lt he x hx).1
    have h3 := hvW x e1.symm
    omega
  refine ⟨?_, ?_, fun u hu => ?_, fun u hu b hb => ?_, fun i j ti tj hij hi hj b hb => ?_, ?_⟩
  · rw [List.take_add_one, ht, List.map_append, List.map_append, h.same]; rfl
  · rw [tilV_append]; exact ho
  · rcases List.mem_append.1 hu with hu | hu
    · exact ((h.each u hu).kept h1).grown hg (fun x hx => h.off u hu x hx)
    · rw [List.mem_singleton.1 hu]
      exact (Own.grown he hg hne).less (by omega)
  · rcases List.mem_append.1 hu with hu | hu
    · rcases hv with hv | hv
      · rw [hv]; exact h.off u hu b hb
      · intro e1
        have := hv b e1.symm
        have h2 := ((h.each u hu).lt b hb).2
        have := h1.size
        omega
    · rw [List.mem_singleton.1 hu] at hb
      rcases hv with hv | hv
      · rw [hv]; exact hne b hb
      · intro e1
        have h2 := hv b e1.symm
        have h3 := (Own.lt he b hb).2
        omega
  · by_cases hje : j < es.length
    · rw [List.getElem?_append_left hje] at hj
      rw [List.getElem?_append_left (by omega)] at hi
      exact h.dist i j ti tj hij hi hj b hb
    · have hj2 : j = es.length := by
        have := (List.getElem?_eq_some_iff.1 hj).1
        simp at this; omega
      rw [List.getElem?_append_left (by omega)] at hi
      rw [List.getElem?_append_right (by omega), hj2, Nat.sub_self] at hj
      simp at hj
      subst hj
      intro e1
      have h2 := ((h.each ti (List.mem_of_getElem? hi)).lt b hb).2
      have h3 := (Own.lt he b e1).1
      omega
  · exact (h.kept.trans (h1.mono hkW)).grown hg (by have := h1.size; omega) (fun k hk => by have := (h.own.lt k hk).1; omega)
end Go.Proofs.YtneakieigiafpaaGreatDoor

/- What TileJoins holds while it writes into what it was handed: plain words on memory. -/
namespace Go.Proofs.YtneakieigiafpaaGreatDoor
open Go.RowKit

/-- What comes of putting together, both ways at once. -/
def jnA (g : GrD) (E : Int) : Int := if E = 0 then g.across else 0
def jnD (g : GrD) (E : Int) : Int := if E = 0 then g.down else 0
def jnC (g : GrD) (E : Int) (L : List TilD) : List Wit := if E = 0 then baseC g L else []
theorem JoinPost.uni {w w' : World} {g : GrD} {E : Int} {L : List TilD} {e : Ending} (h : JoinPost w g E L e w') :
    ∃ A c, e = .returned (.tuple #[.agg #[.int .i64 0, .int .i64 0, .int .i64 (jnA g E), .int .i64 (jnD g E), .slice A (jnC g E L).length c], .int .i64 E]) ∧ Own w' w.heap.size 3 (.slice A (jnC g E L).length c) (jnC g E L).length (witV (jnC g E L)) ∧ Kept w w' := by
  obtain ⟨h1, hk⟩ := h
  unfold jnA jnD jnC
  by_cases hE : E = 0
  · rw [if_pos hE] at h1 ⊢
    rw [if_pos hE, if_pos hE]
    obtain ⟨v, rfl, ho⟩ := h1
    have hl := baseC_length g L
    rw [← hl] at ho
    obtain ⟨A, c, rfl, -⟩ := ho.form
    exact ⟨A, c, by rw [hE], ho, hk⟩
  · rw [if_neg hE] at h1 ⊢
    rw [if_neg hE, if_neg hE]
    exact ⟨none, 0, h1, Own.nil _ _ _, hk⟩
theorem jnC_le {g : GrD} {E : Int} {L : List TilD} (hE : E = joinE g L) : (jnC g E L).length ≤ 4611686018427387904 := by
  unfold jnC
  split
  · rename_i h0
    rw [h0] at hE
    unfold joinE at hE
    split at hE
    · split at hE
      · omega
      · rw [baseC_length]; omega
    · omega
  · simp
/-- What comes of a cut, both ways at once. -/
def ctX (E x : Int) : Int := if E = 0 then x else 0
def ctW (E : Int) (C : List Wit) : List Wit := if E = 0 then C else []
theorem CutPost.uni {w w' : World} {E rx ry ra rd : Int} {C : List Wit} {e : Ending} (h : CutPost w E rx ry ra rd C e w') :
    ∃ A c, e = .returned (.tuple #[.agg #[.int .i64 (ctX E rx), .int .i64 (ctX E ry), .int .i64 (ctX E ra), .int .i64 (ctX E rd), .slice A (ctW E C).length c], .int .i64 E]) ∧ Own w' w.heap.size 3 (.slice A (ctW E C).length c) (ctW E C).length (witV (ctW E C)) ∧ Kept w w' := by
  obtain ⟨h1, hk⟩ := h
  unfold ctX ctW
  by_cases hE : E = 0
  · simp only [if_pos hE] at h1 ⊢
    obtain ⟨v, rfl, ho⟩ := h1
    obtain ⟨A, c, rfl, -⟩ := ho.form
    exact ⟨A, c, by rw [hE], ho, hk⟩
  · simp only [if_neg hE] at h1 ⊢
    exact ⟨none, 0, h1, Own.nil _ _ _, hk⟩
theorem cutC_le (C : List Wit) (A f ra : Nat) : ∀ k, (cutC C A f ra k).length ≤ k * ra
  | 0 => by simp [cutC]
  | k + 1 => by
    have h1 := cutC_le C A f ra k
    rw [cutC, List.length_append, List.length_take, Nat.add_mul, Nat.one_mul]
    omega
theorem ctW_le (E : Int) (T : TilD) (rx ry ra rd : Int) (h1 : ¬ 1000 < ra) (h2 : ¬ 1000 < rd) : (ctW E (cutP T rx ry ra rd)).length ≤ 1000000 := by
  unfold ctW
  split
  · have h := cutC_le T.c T.a.toNat ((ry - T.y) * T.a + (rx - T.x)).toNat ra.toNat rd.toNat
    have h3 : rd.toNat * ra.toNat ≤ 1000 * 1000 := Nat.mul_le_mul (by omega) (by omega)
    unfold cutP
    omega
  · simp
theorem LTo.tils {w W : World} {Ts es : List TilH} {k : Nat} {v : Value} (h : LTo w Ts k v es W) (hk : Ts.length = k) (hT : ∀ t ∈ Ts, t.T.c.length = t.n ∧ (∀ x ∈ t.T.c, x.ok) ∧ t.n ≤ 9223372036854775807 ∧ in64 t.T.x ∧ in64 t.T.y ∧ in64 t.T.a ∧ in64 t.T.d) :
    ∃ A c, v = .slice A k c ∧ k ≤ c ∧ Tils W A es := by
  obtain ⟨A, c, rfl, hkc, hcm, hr, -, -⟩ := h.own.form
  refine ⟨A, c, rfl, hkc, hr, fun t ht => ?_⟩
  obtain ⟨i, hi⟩ := List.getElem?_of_mem ht
  have h1 : (es.map (fun t => (t.T, t.n)))[i]? = some (t.T, t.n) := by rw [List.getElem?_map, hi]; rfl
  rw [h.same, List.take_of_length_le (by omega), List.getElem?_map] at h1
  obtain ⟨u, hu, hut⟩ := Option.map_eq_some_iff.1 h1
  have hu2 := hT u (List.mem_of_getElem? hu)
  simp only [Prod.mk.injEq] at hut
  rw [hut.1, hut.2] at hu2
  obtain ⟨a1, a2, a3, a4, a5, a6, a7⟩ := hu2
  have ho := h.each t ht
  obtain ⟨A', c', hv, h2, -, hr', -⟩ := ho.form
  injection hv with e1 e2 e3
  exact ⟨a1, by omega, a3, by rw [e1]; exact hr', a2, a4.1, a4.2, a5.1, a5.2, a6.1, a6.2, a7.1, a7.2⟩
theorem LTo.map {w W : World} {Ts es : List TilH} {k : Nat} {v : Value} (h : LTo w Ts k v es W) (hk : Ts.length = k) : es.map (·.T) = Ts.map (·.T) := by
  have h1 := congrArg (List.map Prod.fst) h.same
  rw [List.take_of_length_le (by omega)] at h1
  simpa [Function.comp_def] using h1

theorem fz_fresh (w : World) (cs : Array Value) (t : TypeId) (o : Nat) : (w.alloc (.cells cs t)).frozen? ⟨w.heap.size, o, none⟩ = false := by
  have hh : (w.alloc (.cells cs t)).heap[w.heap.size]? = some (.cells cs t (0, 0)) := by
    show (w.heap.push _)[w.heap.size]? = _
    simp
  simp only [World.frozen?, hh]
  simp
theorem tilAt_own {w W : World} {T : TilD} {AT AO : Option Addr} {n ct co base : Nat} (h : TilAt w T AT n ct) (ho : Own W base 3 (.slice AO n co) n (witV T.c)) : TilAt W T AO n co := by
  obtain ⟨A', c', hv, h2, -, hr', -⟩ := ho.form
  injection hv with e1 e2 e3
  subst e1 e3
  exact { h with cap := h2, row := hr' }
theorem cntT_form (T : TilD) (n : Nat) : ∃ i o u e : Int, cntT T n = .tuple #[.int .i64 i, .int .i64 o, .int .i64 u, .int .i64 e] := by
  unfold cntT
  split
  · exact ⟨_, _, _, _, rfl⟩
  · exact ⟨_, _, _, _, rfl⟩
theorem LBox.put {W : World} {b : Nat} {x y u v : Int} {A : Option Addr} {n c : Nat} (h : LBox W b x y u v A n c) {p : Addr} (hp : b ≠ p.block) (z : Value) : LBox (W.setCell p z) b x y u v A n c :=
  h.far fun o => World.cell?_setCell_other W p ⟨b, o, none⟩ z (fun e => hp (by rw [e]))
/-- What must stay to the end. -/
structure WF (wc : World) (q : Nat) (T : TilD) (AO : Option Addr) (no co : Nat) (jb : Nat) (ja jd : Int) (CA : List Wit) (pa : Nat) (Aa : Option Addr) (ca : Nat) (pb : Nat) (Ab : Option Addr) (cb : Nat) (W : World) : Prop where
  k : Kept wc W
  lo : LBox W q T.x T.y T.a T.d AO no co
  oo : Own W 0 3 (.slice AO no co) no (witV T.c)
  hq : q < wc.heap.size
  ho : ∀ b, (Value.slice AO no co).ownBlock = some b → b < wc.heap.size
  la : LBox W pa 0 0 ja jd Aa CA.length ca
  oa : Own W jb 3 (.slice Aa CA.length ca) CA.length (witV CA)
  lb : LBox W pb 0 0 ja jd Ab CA.length cb
  ob : Own W jb 3 (.slice Ab CA.length cb) CA.length (witV CA)
section
variable {wc W W' : World} {q jb pa ca pb cb no co : Nat} {T : TilD} {AO Aa Ab : Option Addr} {ja jd : Int} {CA : List Wit}
theorem WF.kept (h : WF wc q T AO no co jb ja jd CA pa Aa ca pb Ab cb W) (hk : Kept W W') : WF wc q T AO no co jb ja jd CA pa Aa ca pb Ab cb W' :=
  ⟨h.k.trans' hk, h.lo.kept hk, h.oo.kept hk, h.hq, h.ho, h.la.kept hk, h.oa.kept hk, h.lb.kept hk, h.ob.kept hk⟩
/-- A store into a block that is none of those. -/
structure WOff (wc : World) (CA : List Wit) (pa : Nat) (Aa : Option Addr) (ca : Nat) (pb : Nat) (Ab : Option Addr) (cb : Nat) (g : Nat) : Prop where
  w : wc.heap.size ≤ g
  pa : pa ≠ g
  pb : pb ≠ g
  a : ∀ k, (Value.slice Aa CA.length ca).ownBlock = some k → k ≠ g
  b : ∀ k, (Value.slice Ab CA.length cb).ownBlock = some k → k ≠ g
theorem WF.put (h : WF wc q T AO no co jb ja jd CA pa Aa ca pb Ab cb W) {g : Nat} (hg : WOff wc CA pa Aa ca pb Ab cb g) (o : Nat) (z : Value) : WF wc q T AO no co jb ja jd CA pa Aa ca pb Ab cb (W.setCell ⟨g, o, none⟩ z) := by
  have hw := hg.w
  have hq := h.hq
  exact ⟨h.k.setCell hg.w z, h.lo.put (p := ⟨g, o, none⟩) (by show q ≠ g; omega) z, h.oo.far (p := ⟨g, o, none⟩) (fun k hk => by have := h.ho k hk; show k ≠ g; omega) z, h.hq, h.ho,
    h.la.put (p := ⟨g, o, none⟩) hg.pa z, h.oa.far (p := ⟨g, o, none⟩) hg.a z, h.lb.put (p := ⟨g, o, none⟩) hg.pb z, h.ob.far (p := ⟨g, o, none⟩) hg.b z⟩
theorem LBox.grown {b : Nat} {x y u v : Int} {A : Option Addr} {n c : Nat} {row : Option Nat} (h : LBox W b x y u v A n c) (hg : W.grownBy W' row) (hne : some b ≠ row) : LBox W' b x y u v A n c :=
  h.far fun o => hg.cell_far ⟨b, o, none⟩ h.lt hne
theorem WF.grown (h : WF wc q T AO no co jb ja jd CA pa Aa ca pb Ab cb W) {row : Option Nat} (hg : W.grownBy W' row) (hr : ∀ g, row = some g → WOff wc CA pa Aa ca pb Ab cb g) : WF wc q T AO no co jb ja jd CA pa Aa ca pb Ab cb W' := by
  have hq := h.hq
  refine ⟨h.k.grown hg (h.k.size) (fun k hk => (hr k hk).w), h.lo.grown hg (fun e => ?_), h.oo.grown hg (fun k hk e => ?_), h.hq, h.ho, h.la.grown hg (fun e => ?_), h.oa.grown hg (fun k hk e => ?_), h.lb.grown hg (fun e => ?_), h.ob.grown hg (fun k hk e => ?_)⟩
  · have := (hr q e.symm).w; omega
  · have := (hr k e.symm).w
    have := h.ho k hk; omega
  · exact (hr pa e.symm).pa rfl
  · exact (hr k e.symm).a k hk rfl
  · exact (hr pb e.symm).pb rfl
  · exact (hr k e.symm).b k hk rfl
end
theorem own_some {W : World} {base size n c : Nat} {A : Option Addr} {xs : List Value} (h : Own W base size (.slice A n c) n xs) (hn : 0 < n) : ∃ g off, A = some ⟨g, off, none⟩ := by
  rcases h.2 with ⟨-, h0⟩ | ⟨g, off, cap, hv, -⟩
  · omega
  · injection hv with hA _ _
    exact ⟨g, off, hA⟩
theorem tilrow_at {W : World} {A : Option Addr} {L : List TilH} (h : Row W A (tilV L)) {k : Nat} {t : TilH} (hx : L[k]? = some t) :
    ∃ b off, A = some ⟨b, off, none⟩ ∧ W.cell? ⟨b, off + k * 5, none⟩ = some (.int .i64 t.T.x) ∧ W.cell? ⟨b, off + k * 5 + 1, none⟩ = some (.int .i64 t.T.y) ∧ W.cell? ⟨b, off + k * 5 + 2, none⟩ = some (.int .i64 t.T.a) ∧ W.cell? ⟨b, off + k * 5 + 3, none⟩ = some (.int .i64 t.T.d) ∧ W.cell? ⟨b, off + k * 5 + 4, none⟩ = some (.slice t.A t.n t.c) := by
  obtain ⟨h0, h1, h2, h3, h4⟩ := tilV_get L k t hx
  rcases h with h | ⟨b, off, hA, hc⟩
  · rw [h] at h0; simp at h0
  · exact ⟨b, off, hA, hc _ _ h0, by rw [Nat.add_assoc]; exact hc _ _ h1, by rw [Nat.add_assoc]; exact hc _ _ h2, by rw [Nat.add_assoc]; exact hc _ _ h3, by rw [Nat.add_assoc]; exact hc _ _ h4⟩
theorem LTo.same_at {w W : World} {Ts es : List TilH} {k m : Nat} {v : Value} (h : LTo w Ts k v es W) {t u : TilH} (hk : Ts.length = k) (ht : Ts[m]? = some t) (hu : es[m]? = some u) : u.T = t.T ∧ u.n = t.n := by
  have h1 : (es.map (fun t => (t.T, t.n)))[m]? = some (u.T, u.n) := by rw [List.getElem?_map, hu]; rfl
  rw [h.same, List.take_of_length_le (by omega), List.getElem?_map, ht] at h1
  simpa using h1.symm
/-- What is still whole while the lent tiles are written over: the first m of them are. -/
structure WL (wc : World) (v : Value) (Z : Nat) (es : List TilH) (pc : Nat) (x y u z : Int) (Ac : Option Addr) (nc cc cb : Nat) (CC : List Wit) (m : Nat) (W : World) : Prop where
  hd : Own W wc.heap.size 5 v Z (tilV es)
  ent : ∀ (j : Nat) (t : TilH), es[j]? = some t → m ≤ j → Own W wc.heap.size 3 (.slice t.A t.n t.c) t.n (witV t.T.c)
  lc : LBox W pc x y u z Ac nc cc
  fz : W.frozen? ⟨pc, 4, none⟩ = false
  oc : Own W cb 3 (.slice Ac nc cc) nc (witV CC)
section
variable {wc W W' : World} {v : Value} {Z pc nc cc cb m : Nat} {es : List TilH} {x y u z : Int} {Ac : Option Addr} {CC : List Wit}
theorem WL.kept (h : WL wc v Z es pc x y u z Ac nc cc cb CC m W) (hk : Kept W W') : WL wc v Z es pc x y u z Ac nc cc cb CC m W' :=
  ⟨h.hd.kept hk, fun j t hj hm => (h.ent j t hj hm).kept hk, h.lc.kept hk, (hk.thaw _ _ h.lc.lt).trans h.fz, h.oc.kept hk⟩
theorem WL.less (h : WL wc v Z es pc x y u z Ac nc cc cb CC m W) {m' : Nat} (hm : m ≤ m') : WL wc v Z es pc x y u z Ac nc cc cb CC m' W :=
  ⟨h.hd, fun j t hj hj' => h.ent j t hj (by omega), h.lc, h.fz, h.oc⟩
/-- A store into tile m. -/
theorem WL.put (h : WL wc v Z es pc x y u z Ac nc cc cb CC (m + 1) W) {t : TilH} (ht : es[m]? = some t) {g off : Nat} (hA : t.A = some ⟨g, off, none⟩)
    (hoff : ∀ t ∈ es, ∀ b, t.blk = some b → some b ≠ v.ownBlock) (hdist : ∀ (i j : Nat) (ti tj : TilH), i < j → es[i]? = some ti → es[j]? = some tj → ∀ b, ti.blk = some b → tj.blk ≠ some b)
    (hp : pc ≠ g) (hc : ∀ k, (Value.slice Ac nc cc).ownBlock = some k → k ≠ g) (o : Nat) (y' : Value) : WL wc v Z es pc x y u z Ac nc cc cb CC (m + 1) (W.setCell ⟨g, o, none⟩ y') := by
  have hb : t.blk = some g := by simp [TilH.blk, hA, Value.ownBlock]
  refine ⟨h.hd.far (p := ⟨g, o, none⟩) (fun k hk e => ?_) y', fun j tj hj hm => (h.ent j tj hj hm).far (p := ⟨g, o, none⟩) (fun k hk e => ?_) y', h.lc.put (p := ⟨g, o, none⟩) hp y', (World.frozen?_setCell _ _ _ _).trans h.fz, h.oc.far (p := ⟨g, o, none⟩) hc y'⟩
  · have e' : k = g := e
    subst e'
    exact hoff t (List.mem_of_getElem? ht) k hb hk.symm
  · have e' : k = g := e
    subst e'
    exact hdist m j t tj (by omega) ht hj k hb hk
end
end Go.Proofs.YtneakieigiafpaaGreatDoor
