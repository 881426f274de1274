/- The runner's states against the model's: what is known of memory, and what a piece of a run may have changed. -/
import Derived.Test.YtneakieigiafpaaGreatDoorExB
import Derived.Below
namespace Go.Ex
open Go

/-- What may not be written lies behind the cells, if there is any. -/
def Lo (fz : Nat × Nat) (n : Nat) : Prop := fz.1 = fz.2 ∨ n ≤ fz.1
theorem Lo.no {fz : Nat × Nat} {n : Nat} (h : Lo fz n) : ∀ i : Nat, i < n → ¬ (fz.1 ≤ i ∧ i < fz.2) := fun i hi => by rcases h with h | h <;> omega
/-- What is known of a block. -/
def BkOK (ρ : Va) (w : World) (b : Nat) (bl : B) : Prop := ∃ (arr : Array Value) (e : TypeId) (fz : Nat × Nat), w.heap[ρ.blk b]? = some (.cells arr e fz) ∧ (∀ (i : Nat) (x : SV), bl.cells[i]? = some x → arr[i]? = some (x.conc ρ)) ∧
  Lo fz arr.size ∧ (bl.sz ≠ 0 → arr.size = bl.sz * ρ.cap b)
structure HpOK (ρ : Va) (n : Nat) (l : List Hp) (w : World) : Prop where
  srt : Srt l n
  sc : ∀ b bl, hget l b = some bl → ∀ x ∈ bl.cells, Sc n x
  bk : ∀ b bl, hget l b = some bl → BkOK ρ w b bl
  inj : ∀ b b' x y, hget l b = some x → hget l b' = some y → ρ.blk b = ρ.blk b' → b = b'
  glob : ∀ g, g < 4096 → ρ.blk g = g
  big : 4096 ≤ n
/-- What is no memory stays. -/
structure Side (w w' : World) : Prop where
  os : w'.os = w.os
  tape : w'.tape = w.tape
  output : w'.output = w.output
theorem Side.refl (w : World) : Side w w := ⟨rfl, rfl, rfl⟩
theorem Side.trans {a b c : World} (h : Side a b) (k : Side b c) : Side a c := ⟨k.os.trans h.os, k.tape.trans h.tape, k.output.trans h.output⟩
/-- From one state to a later one: L are the names that were there before and may have been written. -/
structure Ext (L : List Nat) (ρ : Va) (n : Nat) (H : List Hp) (w : World) (ρ' : Va) (n' : Nat) (H' : List Hp) (w' : World) : Prop where
  le : n ≤ n'
  size : w.heap.size ≤ w'.heap.size
  agr : ∀ b, b < n ∨ n' ≤ b → ρ'.blk b = ρ.blk b ∧ ρ'.cap b = ρ.cap b
  nrev : ∀ b, b < n → ∀ y, hget H' b = some y → ∃ x, hget H b = some x
  frame : ∀ r, r < w.heap.size → (∀ b ∈ L, b < n → ρ.blk b ≠ r) → w'.heap[r]? = w.heap[r]?
  vis : ∀ b ∈ L, b < n → ∃ x, hget H b = some x
  new : ∀ b, n ≤ b → ∀ y, hget H' b = some y → w.heap.size ≤ ρ'.blk b ∨ ∃ b' ∈ L, b' < n ∧ ρ.blk b' = ρ'.blk b
  side : Side w w'
theorem Ext.ag {L : List Nat} {ρ : Va} {n : Nat} {H : List Hp} {w : World} {ρ' : Va} {n' : Nat} {H' : List Hp} {w' : World} (h : Ext L ρ n H w ρ' n' H' w') : Agr n ρ ρ' := fun b hb => h.agr b (.inl hb)
theorem Ext.refl (ρ : Va) (n : Nat) (H : List Hp) (w : World) (hs : Srt H n) : Ext [] ρ n H w ρ n H w where
  le := Nat.le_refl _
  size := Nat.le_refl _
  agr := fun _ _ => ⟨rfl, rfl⟩
  nrev := fun b _ y h => ⟨y, h⟩
  frame := fun _ _ _ => rfl
  vis := fun b h => (by cases h)
  new := fun b hb y hy => absurd (Srt.lt hs hy) (by omega)
  side := Side.refl w
theorem Ext.trans {L₁ L₂ L : List Nat} {ρ₀ ρ₁ ρ₂ : Va} {n₀ n₁ n₂ : Nat} {H₀ H₁ H₂ : List Hp} {w₀ w₁ w₂ : World} (h₁ : Ext L₁ ρ₀ n₀ H₀ w₀ ρ₁ n₁ H₁ w₁) (h₂ : Ext L₂ ρ₁ n₁ H₁ w₁ ρ₂ n₂ H₂ w₂)
    (hL : ∀ b, b ∈ L ↔ b ∈ L₁ ∨ (b ∈ L₂ ∧ b < n₀)) : Ext L ρ₀ n₀ H₀ w₀ ρ₂ n₂ H₂ w₂ where
  le := Nat.le_trans h₁.le h₂.le
  size := Nat.le_trans h₁.size h₂.size
  agr := fun b hb => by
    have l1 := h₁.le
    have l2 := h₂.le
    have a := h₁.agr b (by omega)
    have c := h₂.agr b (by omega)
    exact ⟨c.1.trans a.1, c.2.trans a.2⟩
  nrev := fun b hb y hy => by
    have l1 := h₁.le
    obtain ⟨x, hx⟩ := h₂.nrev b (by omega) y hy
    exact h₁.nrev b hb x hx
  frame := fun r hr hno => by
    have l1 := h₁.le
    have s1 := h₁.size
    refine (h₂.frame r (by omega) fun b hb hbn he => ?_).trans (h₁.frame r hr fun b hb hbn => hno b ((hL b).2 (.inl hb)) hbn)
    by_cases hb0 : b < n₀
    · exact hno b ((hL b).2 (.inr ⟨hb, hb0⟩)) hb0 ((h₁.agr b (.inl hb0)).1.symm.trans he)
    · obtain ⟨x, hx⟩ := h₂.vis b hb hbn
      rcases h₁.new b (by omega) x hx with h | ⟨b', hb', hbn', he'⟩
      · omega
      · exact hno b' ((hL b').2 (.inl hb')) hbn' (he'.trans he)
  vis := fun b hb hbn => by
    have l1 := h₁.le
    rcases (hL b).1 hb with h | ⟨h, -⟩
    · exact h₁.vis b h hbn
    · obtain ⟨x, hx⟩ := h₂.vis b h (by omega)
      exact h₁.nrev b hbn x hx
  new := fun b hb y hy => by
    have l1 := h₁.le
    have s1 := h₁.size
    have old : ∀ b', n₀ ≤ b' → (∃ x, hget H₁ b' = some x) → w₀.heap.size ≤ ρ₁.blk b' ∨ ∃ c ∈ L, c < n₀ ∧ ρ₀.blk c = ρ₁.blk b' := fun b' hb' ⟨x, hx⟩ => by
      rcases h₁.new b' hb' x hx with h | ⟨c, hc, hcn, he⟩
      · exact .inl h
      · exact .inr ⟨c, (hL c).2 (.inl hc), hcn, he⟩
    by_cases hb1 : b < n₁
    · rw [(h₂.agr b (.inl hb1)).1]
      exact old b hb (h₂.nrev b hb1 y hy)
    · rcases h₂.new b (by omega) y hy with h | ⟨c, hc, hcn, he⟩
      · exact .inl (by omega)
      · rw [← he]
        by_cases hc0 : c < n₀
        · exact .inr ⟨c, (hL c).2 (.inr ⟨hc, hc0⟩), hc0, (h₁.agr c (.inl hc0)).1.symm⟩
        · exact old c (by omega) (h₂.vis c hc hcn)
  side := h₁.side.trans h₂.side
/-- Less is known of memory than might be. -/
theorem HpOK.sub {ρ : Va} {n : Nat} {l l' : List Hp} {w : World} (h : HpOK ρ n l w) (hs : Srt l' n) (hsub : ∀ b x, hget l' b = some x → hget l b = some x) : HpOK ρ n l' w where
  srt := hs
  sc := fun b bl hb => h.sc b bl (hsub b bl hb)
  bk := fun b bl hb => h.bk b bl (hsub b bl hb)
  inj := fun b b' x y hx hy => h.inj b b' x y (hsub b x hx) (hsub b' y hy)
  glob := h.glob
  big := h.big
theorem Ext.sub {L : List Nat} {ρ : Va} {n : Nat} {H : List Hp} {w : World} {ρ' : Va} {n' : Nat} {H' H'' : List Hp} {w' : World} (h : Ext L ρ n H w ρ' n' H' w') (hsub : ∀ b x, hget H'' b = some x → hget H' b = some x) : Ext L ρ n H w ρ' n' H'' w' where
  le := h.le
  size := h.size
  agr := h.agr
  nrev := fun b hb y hy => h.nrev b hb y (hsub b y hy)
  frame := h.frame
  vis := h.vis
  new := fun b hb y hy => h.new b hb y (hsub b y hy)
  side := h.side

def DefOK (ρ : Va) (n : Nat) : List (Nat × List SV) → List Deferred → Prop
  | [], [] => True
  | (f, as) :: l, d :: ds => (∃ caps, d.target = .fn (.func f) caps ∧ d.args ++ caps = (as.map (SV.conc ρ)).toArray ∧ ∀ x ∈ as, Sc n x) ∧ DefOK ρ n l ds
  | _, _ => False
theorem DefOK.move {ρ ρ' : Va} {n m : Nat} (hle : n ≤ m) (ha : Agr n ρ ρ') : ∀ {l : List (Nat × List SV)} {ds : List Deferred}, DefOK ρ n l ds → DefOK ρ' m l ds
  | [], [], _ => trivial
  | (f, as) :: l, d :: ds, ⟨⟨caps, h1, h2, h3⟩, h⟩ => ⟨⟨caps, h1, h2.trans (by rw [Sc.map h3 ha]), fun x hx => (h3 x hx).mono hle⟩, DefOK.move hle ha h⟩
  | [], _ :: _, h => h.elim
  | _ :: _, [], h => h.elim
structure EnvOK (ρ : Va) (s : St) (a : Act) : Prop where
  env : ∀ k x, s.env.get k = some x → a.tmps[k]? = some (x.conc ρ)
  sc : ∀ k x, s.env.get k = some x → Sc s.n x
  defs : DefOK ρ s.n s.defs a.defers

theorem opv_ok {ρ : Va} {s : St} {a : Act} {w : World} (he : EnvOK ρ s a) (hh : HpOK ρ s.n s.heap w) {x : Operand} {v : SV} (h : opv s.env x = some v) : a.eval x = v.conc ρ ∧ Sc s.n v := by
  cases x with
  | tmp t =>
    have h1 := he.env t v h
    exact ⟨by simp [Act.eval, h1], he.sc t v h⟩
  | const u => cases h; exact ⟨(conc_v _ _).symm, Sc.v _ _⟩
  | global g =>
    obtain ⟨h1, h2⟩ := guardO_eq.1 (show guardO (Nat.ble g 4095) (some (SV.ptr g 0)) = some v from h)
    cases h2
    have hg := Nat.le_of_ble_eq_true h1
    have hb := hh.big
    exact ⟨by rw [conc_ptr, hh.glob g (by omega)]; rfl, Sc.ptr (by omega)⟩
  | func f => cases h; exact ⟨by rw [conc_fn]; rfl, Sc.fn (fun _ h => (by cases h)) (fun _ h => (by cases h))⟩
theorem opvs_ok {ρ : Va} {s : St} {a : Act} {w : World} (he : EnvOK ρ s a) (hh : HpOK ρ s.n s.heap w) {l : List Operand} {vs : List SV} (h : opvs s.env l = some vs) :
    l.map a.eval = vs.map (SV.conc ρ) ∧ ∀ v ∈ vs, Sc s.n v := by
  obtain ⟨h1, h2⟩ := mapO_eq.1 h
  constructor
  · refine List.ext_getElem? fun i => ?_
    cases hx : l[i]? with
    | none =>
      have : l.length ≤ i := by simpa using hx
      have : vs[i]? = none := by simp [h1, this]
      simp [hx, this]
    | some x =>
      obtain ⟨y, e1, e2⟩ := h2 i x hx
      simp [hx, e1, (opv_ok he hh e2).1]
  · intro v hv
    obtain ⟨i, hi⟩ := List.mem_iff_getElem?.1 hv
    have hlt : i < l.length := by rw [← h1]; exact (List.getElem?_eq_some_iff.1 hi).1
    obtain ⟨y, e1, e2⟩ := h2 i _ (List.getElem?_eq_getElem hlt)
    rw [hi] at e1
    cases e1
    exact (opv_ok he hh e2).2

/-- A piece of a run says so. -/
def OpOK (P : Program) (cx : Cx) (o : Oper) (s : St) (v : SV) (s' : St) : Prop := ∀ (ρ : Va) (a : Act) (w : World), EnvOK ρ s a → HpOK ρ s.n s.heap w → ∀ (next : Act → World → Prop) (Q : Exit → Act → World → Prop),
  (∀ ρ' w' ds L, Ext L ρ s.n s.heap w ρ' s'.n s'.heap w' → HpOK ρ' s'.n s'.heap w' → s'.log = olds cx.base L ++ s.log → s'.env = s.env → Sc s'.n v → DefOK ρ' s'.n s'.defs ds →
    next (({ a with defers := ds } : Act).put o.dst (v.conc ρ')) w') → o.wp P a w next Q
theorem OpOK.value {P : Program} {cx : Cx} {o : Oper} {s : St} {v : SV} (h : ∀ ρ a w, EnvOK ρ s a → HpOK ρ s.n s.heap w → (execOp a.eval o).run P w = .ok (.value (v.conc ρ)) w ∧ Sc s.n v) : OpOK P cx o s v s := by
  intro ρ a w he hh next Q hk
  obtain ⟨h1, h2⟩ := h ρ a w he hh
  unfold Oper.wp
  rw [h1, Oper.upon_value]
  have := hk ρ w a.defers [] (Ext.refl _ _ _ _ hh.srt) hh rfl rfl h2 he.defs
  exact this
theorem same_eq {s s' : St} {x : Option SV} {v : SV} (h : same s x = some (v, s')) : x = some v ∧ s' = s := by
  obtain ⟨y, h1, h2⟩ := bindO_eq.1 h
  cases h2
  exact ⟨h1, rfl⟩

/-! ### Memory's cells -/
theorem BkOK.cell {ρ : Va} {w : World} {b : Nat} {bl : B} (h : BkOK ρ w b bl) {i : Nat} {x : SV} (hx : bl.cells[i]? = some x) : w.cell? ⟨ρ.blk b, i, none⟩ = some (x.conc ρ) := by
  obtain ⟨arr, e, fz, h1, h2, -, -⟩ := h
  simp [World.cell?, h1, h2 i x hx]
theorem BkOK.thaw {ρ : Va} {w : World} {b : Nat} {bl : B} (h : BkOK ρ w b bl) {i : Nat} (hi : i < bl.cells.length) : w.frozen? ⟨ρ.blk b, i, none⟩ = false := by
  obtain ⟨arr, e, fz, h1, h2, h3, -⟩ := h
  have hlt : i < arr.size := (Array.getElem?_eq_some_iff.1 (h2 i _ (List.getElem?_eq_getElem hi))).1
  have := h3.no i hlt
  simp only [World.frozen?, h1]
  simp only [Bool.and_eq_false_iff, decide_eq_false_iff_not]
  by_cases h4 : fz.1 ≤ i
  · exact .inr fun h5 => this ⟨h4, h5⟩
  · exact .inl h4
theorem run_loadCells_conc {P : Program} {ρ : Va} {w : World} {b off : Nat} {bl : B} (h : BkOK ρ w b bl) {n : Nat} {cs : List SV} (hc : takeS n bl.cells off = some cs) :
    (loadCells ⟨ρ.blk b, off, none⟩ n).run P w = .ok (cs.map (SV.conc ρ)).toArray w := by
  obtain ⟨h1, h2⟩ := takeS_get hc
  have := run_loadCells_list (P := P) w ⟨ρ.blk b, off, none⟩ (cs.map (SV.conc ρ)) (fun j v hv => by
    rw [Addr.add_lit]
    rw [List.getElem?_map] at hv
    cases hx : cs[j]? with
    | none => rw [hx] at hv; cases hv
    | some x =>
      rw [hx] at hv
      cases hv
      exact h.cell (h2 j x hx))
  simpa [h1] using this
theorem isAgg_run {P : Program} {t : TypeId} {d : TypeDesc} (h : P.underlying t = some d) (w : World) : (isAgg t).run P w = .ok (isAggT P t) w := by
  unfold isAgg isAggT
  rw [Sem.run_bind, run_underlying h w, h]
  cases d <;> rfl
theorem sizeOf_run {P : Program} {t : TypeId} {n : Nat} (h : sizeT P t = some n) (w : World) : (sizeOf t).run P w = .ok n w := by
  obtain ⟨i, h1, h2⟩ := bindO_eq.1 h
  cases h2
  simp [sizeOf, typeInfo, h1]
theorem loadVar_ok {P : Program} {ρ : Va} {w : World} {b off : Nat} {bl : B} (h : BkOK ρ w b bl) {t : TypeId} {v : SV} (hp : partS P t bl.cells off = some v) :
    (loadVar t ⟨ρ.blk b, off, none⟩).run P w = .ok (v.conc ρ) w := by
  obtain ⟨h1, hp⟩ := guardO_eq.1 hp
  obtain ⟨d, hd⟩ := isS_eq.1 h1
  obtain ⟨n, hn, hp⟩ := bindO_eq.1 hp
  unfold loadVar
  rw [Sem.run_bind, isAgg_run hd]
  rw [ifB_eq] at hp
  split at hp
  · rename_i ha
    obtain ⟨r, hr, hp⟩ := bindO_eq.1 hp
    cases hp
    simp [ha, sizeOf_run hn, run_loadCells_conc h hr, conc_agg]
  · rename_i ha
    rw [nth_eq] at hp
    simp [ha, h.cell hp]
theorem partS_sc {P : Program} {t : TypeId} {cs : List SV} {off n : Nat} {v : SV} (hs : ∀ x ∈ cs, Sc n x) (hp : partS P t cs off = some v) : Sc n v := by
  obtain ⟨h1, hp⟩ := guardO_eq.1 hp
  obtain ⟨m, hn, hp⟩ := bindO_eq.1 hp
  rw [ifB_eq] at hp
  split at hp
  · obtain ⟨r, hr, hp⟩ := bindO_eq.1 hp
    cases hp
    obtain ⟨-, h2⟩ := takeS_get hr
    refine Sc.agg fun x hx => ?_
    obtain ⟨i, hi⟩ := List.mem_iff_getElem?.1 hx
    exact hs x (List.mem_of_getElem? (h2 i x hi))
  · rw [nth_eq] at hp
    exact hs v (List.mem_of_getElem? hp)
theorem part_ok {P : Program} {ρ : Va} {t : TypeId} {cs : List SV} {off : Nat} {v : SV} (hp : partS P t cs off = some v) (w : World) : (part t (cs.map (SV.conc ρ)).toArray off).run P w = .ok (v.conc ρ) w := by
  obtain ⟨h1, hp⟩ := guardO_eq.1 hp
  obtain ⟨d, hd⟩ := isS_eq.1 h1
  obtain ⟨n, hn, hp⟩ := bindO_eq.1 hp
  unfold part
  rw [Sem.run_bind, isAgg_run hd]
  rw [ifB_eq] at hp
  split at hp
  · rename_i ha
    obtain ⟨r, hr, hp⟩ := bindO_eq.1 hp
    cases hp
    obtain ⟨e1, e2⟩ := takeS_eq hr
    simp only [Result.andThen_ok, ha, if_true, Sem.run_bind, sizeOf_run hn, Sem.run_pure, conc_agg]
    congr 2
    apply Array.ext'
    simp [e1, List.map_take, List.map_drop]
  · rename_i ha
    rw [nth_eq] at hp
    simp [ha, hp]
end Go.Ex
