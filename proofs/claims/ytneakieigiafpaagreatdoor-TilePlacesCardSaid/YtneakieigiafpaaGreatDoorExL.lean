/- Regions whose order is open: whatever order is drawn, what the runner found in the text's order comes about. -/
import Derived.Test.YtneakieigiafpaaGreatDoorExK
namespace Go.Ex
open Go
section
variable {P : Program} {call : Caller} {cx : Cx} {ops : Array Oper} {bef : Nat → Nat} {S : Nat → St} {E : Nat → Ef} {M N i : Nat} {D : Nat → Bool} {ρ0 ρ : Va} {w0 w : World} {a : Act}

theorem BkOK.keep {ρ ρ' : Va} {w w' : World} {b : Nat} {bl : B} (h : BkOK ρ w b bl) (h1 : ρ'.blk b = ρ.blk b) (h2 : ρ'.cap b = ρ.cap b) (hs : ∀ c ∈ bl.cells, c.conc ρ' = c.conc ρ) (hw : w'.heap[ρ.blk b]? = w.heap[ρ.blk b]?) : BkOK ρ' w' b bl := by
  obtain ⟨arr, e, fz, g1, g2, g3, g4⟩ := h
  refine ⟨arr, e, fz, by rw [h1, hw]; exact g1, fun j x hx => ?_, g3, by rw [h2]; exact g4⟩
  rw [hs x (List.mem_of_getElem? hx)]
  exact g2 j x hx
theorem Act.put_size (a : Act) (d : Option Tmp) (v : Value) : (a.put d v).tmps.size = a.tmps.size := by cases d <;> simp [Act.put]
theorem Act.put_defs (a : Act) (d : Option Tmp) (v : Value) : (a.put d v).defers = a.defers := by cases d <;> rfl
theorem agr0 (pa : Pass P call cx ops bef S E) (hM : M ≤ ops.size) (hF : ∀ j, j < M → Fact (E j)) (hdon : ∀ k, D k = true → k < M) (inv : Inv ops S E N ρ0 w0 D ρ a w) : Agr (S 0).n ρ0 ρ := fun b hb => inv.agr b fun j hj => .inl (by
  have := hdon j hj
  rw [(pa.bounds (show j < ops.size by omega)).1]
  exact Nat.lt_of_lt_of_le hb (n_le pa hM hF (Nat.zero_le _) (by omega)))
theorem fact_of {e : Ef} {L : List Nat} {ρ' : Va} {w' : World} (x : Ext L ρ e.lo e.view w ρ' e.hi e.h1 w') (hwr : ∀ b, b ∈ e.wr ↔ b ∈ L ∧ b < e.lo) (hp : HpOK ρ' e.hi e.h1 w') (hv : Sc e.hi e.val) : Fact e where
  le := x.le
  srt := hp.srt
  sc := hp.sc
  val := hv
  nrev := x.nrev
  wr := fun b hb => ⟨((hwr b).1 hb).2, x.vis b ((hwr b).1 hb).1 ((hwr b).1 hb).2⟩
theorem inv_step (pa : Pass P call cx ops bef S E) (hM : M ≤ ops.size) (hF : ∀ j, j < M → Fact (E j)) (z : Start ρ0 (S 0) N) (hN : cx.N ≤ N) (r : Rdy M bef D i) (hi : i < ops.size) (inv : Inv ops S E N ρ0 w0 D ρ a w) {L : List Nat} {ρ' : Va} {w' : World}
    (e : Ext L ρ (E i).lo (E i).view w ρ' (E i).hi (E i).h1 w') (hwr : ∀ b, b ∈ (E i).wr ↔ b ∈ L ∧ b < (E i).lo) (hp : HpOK ρ' (E i).hi (E i).h1 w') (hv : Sc (E i).hi (E i).val) :
    Inv ops S E N ρ0 w0 (upd D i) ρ' (a.put ops[i].dst ((E i).val.conc ρ')) w' := by
  have fi := fact_of e hwr hp hv
  obtain ⟨b1, b2⟩ := pa.bounds hi
  obtain ⟨e0, -, -, -, hput, -⟩ := pa.step i _ (Array.getElem?_eq_getElem hi)
  have hup := fun b => heap_upd pa hM hF z r hi fi b ops.size hi (Nat.le_refl _)
  have hview : ∀ {b x}, hget (E i).view b = some x → heapAt E D (hget (S 0).heap) ops.size b = some x := fun h => view_at pa hM hF z r hi h ops.size (by omega) (Nat.le_refl _)
  have hn0 : (S 0).n ≤ (E i).lo := by rw [b1]; exact n_le pa hM hF (Nat.zero_le _) r.lt
  have a0 := agr0 pa hM hF r.don inv
  have hmem : ∀ j, D j = true → upd D i j = true := fun j hj => by
    by_cases h : j = i
    · subst h; exact if_pos rfl
    · exact (if_neg h).trans hj
  -- what is neither new nor written
  have rest : ∀ {b x}, heapAt E D (hget (S 0).heap) ops.size b = some x → ¬ ((E i).lo ≤ b ∧ b < (E i).hi) → b ∉ (E i).wr → BkOK ρ' w' b x := fun {b x} hx h1 h2 => by
    have hk := inv.bk b x hx
    have hag := e.agr b (by omega)
    refine hk.keep hag.1 hag.2 (fun c hc => heap_av pa hM hF z r hi (Nat.le_refl _) hx c hc ρ ρ' e.agr) (e.frame _ hk.lt fun b' hb' hlt heq => ?_)
    obtain ⟨y, hy⟩ := e.vis b' hb' hlt
    have := inv.inj b' b _ _ (hview hy) hx heq
    subst this
    exact h2 ((hwr b').2 ⟨hb', hlt⟩)
  have cases3 : ∀ {b x}, heapAt E (upd D i) (hget (S 0).heap) ops.size b = some x → (hget (E i).h1 b = some x ∧ ((E i).lo ≤ b ∨ (b < (E i).lo ∧ b ∈ (E i).wr))) ∨ (heapAt E D (hget (S 0).heap) ops.size b = some x ∧ ¬ ((E i).lo ≤ b ∧ b < (E i).hi) ∧ b ∉ (E i).wr) := fun {b x} hx => by
    rw [hup b] at hx
    split at hx
    · rename_i h; exact .inl ⟨hx, .inl h.1⟩
    · split at hx
      · rename_i h; exact .inl ⟨hx, .inr ⟨(fi.wr b h).1, h⟩⟩
      · rename_i h1 h2; exact .inr ⟨hx, h1, h2⟩
  -- an old name that is known behind the operation was known
  have back : ∀ {b x}, hget (E i).h1 b = some x → b < (E i).lo → ∃ y, heapAt E D (hget (S 0).heap) ops.size b = some y := fun h hb => let ⟨y, hy⟩ := e.nrev _ hb _ h; ⟨y, hview hy⟩
  have mixed : ∀ {b b' x y}, hget (E i).h1 b = some x → ((E i).lo ≤ b ∨ (b < (E i).lo ∧ b ∈ (E i).wr)) → heapAt E D (hget (S 0).heap) ops.size b' = some y → ¬ ((E i).lo ≤ b' ∧ b' < (E i).hi) → b' ∉ (E i).wr → ρ'.blk b = ρ'.blk b' → False := fun {b b' x y} hx h1 hy h2 h3 heq => by
    rw [(e.agr b' (by omega)).1] at heq
    rcases h1 with h1 | ⟨h1, h4⟩
    · rcases e.new b h1 x hx with h | ⟨c, hc, hlt, hce⟩
      · have := (inv.bk b' y hy).lt; omega
      · obtain ⟨u, hu⟩ := e.vis c hc hlt
        have := inv.inj c b' _ _ (hview hu) hy (hce.trans heq)
        subst this
        exact h3 ((hwr c).2 ⟨hc, hlt⟩)
    · obtain ⟨u, hu⟩ := back hx h1
      rw [(e.agr b (.inl h1)).1] at heq
      have := inv.inj b b' _ _ hu hy heq
      subst this
      exact h3 h4
  refine ⟨fun k x h => ?_, fun b x h => ?_, fun b b' x y hx hy heq => ?_, fun b hb => ?_, Nat.le_trans inv.size e.size, fun q hq hno => ?_, fun b hb y hy => ?_, ?_, (Act.put_size _ _ _).trans inv.tmps, inv.side.trans e.side⟩
  · rw [slot_upd pa r hi k ops.size hi (Nat.le_refl _)] at h
    split at h
    · rename_i hd
      cases h
      rw [e0] at hd
      have hk : k < a.tmps.size := by rw [inv.tmps]; exact Nat.lt_of_lt_of_le ((putSt_eq hput).2.2.2.2.1 k hd) hN
      rw [hd]
      simp [Act.put, hk]
    · rename_i hd
      rw [e0] at hd
      have h1 := inv.slot k x h
      rw [slot_av pa hM hF z r hi (Nat.le_refl _) h ρ ρ' e.agr]
      cases hdd : ops[i].dst with
      | none => exact h1
      | some d =>
        have hne : d ≠ k := fun h => hd (by rw [hdd, h])
        simp only [Act.put, Array.getElem?_setIfInBounds_ne hne]
        exact h1
  · rcases cases3 h with ⟨h1, -⟩ | ⟨h1, h2, h3⟩
    · exact hp.bk b x h1
    · exact rest h1 h2 h3
  · rcases cases3 hx with ⟨h1, h2⟩ | ⟨h1, h2, h3⟩ <;> rcases cases3 hy with ⟨g1, g2⟩ | ⟨g1, g2, g3⟩
    · exact hp.inj b b' x y h1 g1 heq
    · exact (mixed h1 h2 g1 g2 g3 heq).elim
    · exact (mixed g1 g2 h1 h2 h3 heq.symm).elim
    · refine inv.inj b b' x y h1 g1 ?_
      rw [← (e.agr b (by omega)).1, ← (e.agr b' (by omega)).1]
      exact heq
  · have h1 := hb i (if_pos rfl)
    have h2 := e.agr b h1
    have h3 := inv.agr b fun j hj => hb j (hmem j hj)
    exact ⟨h2.1.trans h3.1, h2.2.trans h3.2⟩
  · have hold := inv.frame q hq fun j b hj => hno j b (hmem j hj)
    refine (e.frame q (Nat.lt_of_lt_of_le hq inv.size) fun b hb hlt heq => ?_).trans hold
    have hbw := (hwr b).2 ⟨hb, hlt⟩
    by_cases h0 : b < (S 0).n
    · exact hno i b (if_pos rfl) hbw h0 ((a0 b h0).1.symm.trans heq)
    · obtain ⟨y, hy⟩ := e.vis b hb hlt
      rcases inv.new b (by omega) y (hview hy) with h | ⟨j, b', hj, hb', hlt', he'⟩
      · omega
      · exact hno j b' (hmem j hj) hb' hlt' (he'.trans heq)
  · have lift : ∀ b, (S 0).n ≤ b → ∀ y, heapAt E D (hget (S 0).heap) ops.size b = some y → w0.heap.size ≤ ρ.blk b ∨ ∃ j b', upd D i j = true ∧ b' ∈ (E j).wr ∧ b' < (S 0).n ∧ ρ0.blk b' = ρ.blk b := fun b hb y hy => by
      rcases inv.new b hb y hy with h | ⟨j, b', hj, h⟩
      · exact .inl h
      · exact .inr ⟨j, b', hmem j hj, h⟩
    rcases cases3 hy with ⟨h1, h2 | ⟨h2, h3⟩⟩ | ⟨h1, h2, h3⟩
    · rcases e.new b h2 y h1 with h | ⟨c, hc, hlt, hce⟩
      · exact .inl (Nat.le_trans inv.size h)
      · rw [← hce]
        by_cases hc0 : c < (S 0).n
        · exact .inr ⟨i, c, if_pos rfl, (hwr c).2 ⟨hc, hlt⟩, hc0, (a0 c hc0).1.symm⟩
        · obtain ⟨u, hu⟩ := e.vis c hc hlt
          exact lift c (by omega) u (hview hu)
    · obtain ⟨u, hu⟩ := back h1 h2
      rw [(e.agr b (.inl h2)).1]
      exact lift b hb u hu
    · rw [(e.agr b (by omega)).1]
      exact lift b hb y h1
  · rw [Act.put_defs]
    exact inv.defs.move (Nat.le_refl _) fun b hb => e.agr b (.inl (by omega))

theorem looks_same {o : Oper} {a a' : Act} (hs : ∀ cs b, o.op ≠ .select cs b) (h : ∀ t ∈ o.looksAt ops, a'.tmps[t]? = a.tmps[t]?) :
    execOp a'.eval o = execOp a.eval o ∧ Region.wanted o (yielded ops a'.tmps) = Region.wanted o (yielded ops a.tmps) := by
  constructor
  · refine execOp_congr o hs fun x hx => ?_
    cases x with
    | tmp t =>
      have := h t (List.mem_append_left _ (List.mem_filterMap.2 ⟨.tmp t, by simpa using hx, rfl⟩))
      simp only [Act.eval, Array.getD_eq_getD_getElem?, this]
    | _ => rfl
  · unfold Region.wanted
    cases hg : o.guard with
    | none => rfl
    | some gw =>
      obtain ⟨g, want⟩ := gw
      have hy : yielded ops a'.tmps g = yielded ops a.tmps g := by
        unfold yielded
        cases ht : (ops[g]?).bind (·.dst) with
        | none => rfl
        | some t =>
          have := h t (by simp [Oper.looksAt, hg, ht])
          simp [this]
      simp only [hy]
/-- Operation i is run. -/
theorem op_step (hc : CallerOK P call) (pa : Pass P call cx ops bef S E) (hM : M ≤ ops.size) (hF : ∀ j, j < M → Fact (E j)) (z : Start ρ0 (S 0) N) (hN : cx.N ≤ N) (r : Rdy M bef D i) (hi : i < ops.size) (inv : Inv ops S E N ρ0 w0 D ρ a w) :
    (Region.wanted ops[i] (yielded ops a.tmps) = true ∧ SemVal P ((execOp a.eval ops[i]).run P w) fun u w' => ∃ ρ', Inv ops S E N ρ0 w0 (upd D i) ρ' (a.put ops[i].dst u) w' ∧ Fact (E i)) ∨
    (Region.wanted ops[i] (yielded ops a.tmps) = false ∧ ∃ ρ', Inv ops S E N ρ0 w0 (upd D i) ρ' (a.put ops[i].dst undef) w ∧ Fact (E i)) := by
  obtain ⟨e0, e1, e2, hdef, hput, hsub, hsrt, hrun⟩ := pa.step i _ (Array.getElem?_eq_getElem hi)
  let a' : Act := { a with tmps := a.tmps.mapIdx fun k v => match (S i).env.get k with | some x => x.conc ρ | none => v }
  obtain ⟨hsS, hgS⟩ := heap_S pa hM hF z r.lt
  have hn0 : (S 0).n ≤ (S i).n := n_le pa hM hF (Nat.zero_le _) r.lt
  have a0 := agr0 pa hM hF r.don inv
  have hdefs : (S i).defs = (S 0).defs := by
    have : ∀ j, j ≤ ops.size → (S j).defs = (S 0).defs := by
      intro j
      induction j with
      | zero => intro _; rfl
      | succ j ih =>
        intro hj
        obtain ⟨-, -, -, -, hp, -⟩ := pa.step j _ (Array.getElem?_eq_getElem (show j < ops.size by omega))
        exact ((putSt_eq hp).2.2.2.1).trans (ih (by omega))
    exact this i (Nat.le_of_lt hi)
  have henv : ∀ view, EnvOK ρ ⟨(S i).env, view, (E i).lo, [], (S i).defs⟩ a' := fun view => by
    refine ⟨fun k x hk => ?_, fun k x hk => ?_, ?_⟩
    · have hlt := slot_lt pa z hN (Nat.le_of_lt hi) hk
      replace hk : (S i).env.get k = some x := hk
      have : k < a.tmps.size := by rw [inv.tmps]; exact hlt
      simp [a', this, hk]
    · have := slot_sc pa hM hF z r.lt (slot_S pa (Nat.le_of_lt hi) hk)
      rw [← e1] at this
      exact this
    · show DefOK ρ (E i).lo (S i).defs a.defers
      rw [hdefs]
      exact inv.defs.move (by rw [e1]; exact hn0) fun b hb => ⟨rfl, rfl⟩
  have hlook : ∀ t ∈ ops[i].looksAt ops, a'.tmps[t]? = a.tmps[t]? := fun t ht => by
    cases hx : (S i).env.get t with
    | none => simp [a', hx]
    | some x =>
      have h1 := inv.slot t x (look_at pa r hi ht hx)
      rw [h1]
      have : t < a.tmps.size := (Array.getElem?_eq_some_iff.1 h1).1
      simp [a', this, hx]
  obtain ⟨hex, hwan⟩ := looks_same (o := ops[i]) (fun cs b => pa.sel i _ cs b (Array.getElem?_eq_getElem hi)) hlook
  have hview : ∀ {b x}, hget (E i).view b = some x → heapAt E D (hget (S 0).heap) ops.size b = some x := fun h => view_at pa hM hF z r hi h ops.size (Nat.le_of_lt hi) (Nat.le_refl _)
  have hhp : HpOK ρ (E i).lo (E i).view w := by
    refine ⟨by rw [e1]; exact hsrt _ hsS, fun b x hx c hc => ?_, fun b x hx => inv.bk b x (hview hx), fun b b' x y hx hy => inv.inj b b' x y (hview hx) (hview hy), fun g hg => ?_, ?_⟩
    · have h1 := hsub b x hx
      rw [hgS b] at h1
      rw [e1]
      exact heap_sc pa hM hF z r.lt h1 c hc
    · rw [(a0 g (by have := z.big; omega)).1]; exact z.glob g hg
    · rw [e1]; exact Nat.le_trans z.big hn0
  rcases hrun with ⟨hw, hval, hhi, hwr, hh1, hvw⟩ | ⟨hw, env', defs', hex1⟩
  · refine .inr ⟨?_, ρ, ?_⟩
    · have := wanted_ok (ops := ops) (henv []) (show wantedS ops ops[i] (St.mk (S i).env [] (E i).lo [] (S i).defs).env = some false from hw)
      rw [← hwan]; exact this
    · have x : Ext [] ρ (E i).lo (E i).view w ρ (E i).hi (E i).h1 w := by rw [hhi, hh1, hvw]; exact Ext.refl _ _ _ _ trivial
      have hp : HpOK ρ (E i).hi (E i).h1 w := by rw [hhi, hh1]; rw [hvw] at hhp; exact hhp
      have hv : Sc (E i).hi (E i).val := by rw [hval]; exact Sc.v _ _
      have hwr' : ∀ b, b ∈ (E i).wr ↔ b ∈ ([] : List Nat) ∧ b < (E i).lo := fun b => by rw [hwr]; simp
      have := inv_step pa hM hF z hN r hi inv x hwr' hp hv
      rw [hval, conc_v] at this
      exact ⟨this, fact_of x hwr' hp hv⟩
  · refine .inl ⟨?_, ?_⟩
    · have := wanted_ok (ops := ops) (henv []) (show wantedS ops ops[i] (St.mk (S i).env [] (E i).lo [] (S i).defs).env = some true from hw)
      rw [← hwan]; exact this
    · have := exOp_ok hc hdef hex1 ρ a' w (henv _) hhp (Nat.le_refl _)
      rw [hex] at this
      refine this.mono fun u w' ⟨ρ', hu, eff⟩ => ⟨ρ', ?_⟩
      obtain ⟨L, x, hlog⟩ := eff.ext
      have hlog' : (E i).wr = olds (E i).lo L := by
        have h2 : (E i).wr = olds (E i).lo L ++ [] := hlog
        rw [h2, List.append_nil]
      have hwr' : ∀ b, b ∈ (E i).wr ↔ b ∈ L ∧ b < (E i).lo := fun b => by rw [hlog']; exact olds_mem
      subst hu
      exact ⟨inv_step pa hM hF z hN r hi inv x hwr' eff.hp eff.sc, fact_of x hwr' eff.hp eff.sc⟩
end
theorem SemVal.ex {P : Program} {x : Result Next} {R : Value → World → Prop} (h : SemVal P x R) : ∃ u w', R u w' := by
  unfold SemVal at h
  split at h
  · exact ⟨_, _, h⟩
  · exact ⟨_, _, h⟩
  · obtain ⟨e, w', fr, ⟨u, he, hr⟩, -⟩ := h []; exact ⟨u, w', hr⟩
  · exact h.elim
section
variable {P : Program} {call : Caller} {cx : Cx} {ops : Array Oper} {bef : Nat → Nat} {S : Nat → St} {E : Nat → Ef} {M N i : Nat} {D : Nat → Bool} {ρ0 ρ : Va} {w0 w : World} {a a0 : Act}

theorem inv_start (z : Start ρ0 (S 0) N) (hok : Ok cx.N ρ0 (S 0) a0 w0) (hN : a0.tmps.size = N) {D : Nat → Bool} (hD : ∀ k, D k = false) : Inv ops S E N ρ0 w0 D ρ0 a0 w0 := by
  have h1 : ∀ j, heapAt E D (hget (S 0).heap) j = hget (S 0).heap := by
    intro j
    induction j with
    | zero => rfl
    | succ j ih => unfold heapAt; rw [hD j, if_neg (by simp)]; exact ih
  have h2 : ∀ j, slotAt E D (S 0).env.get j = (S 0).env.get := by
    intro j
    induction j with
    | zero => rfl
    | succ j ih => unfold slotAt; rw [ih]; funext k; rw [hD j, if_neg (by simp)]
  refine ⟨fun k x h => ?_, fun b x h => ?_, fun b b' x y hx hy => ?_, fun b _ => ⟨rfl, rfl⟩, Nat.le_refl _, fun _ _ _ => rfl, fun b hb y hy => ?_, hok.env.defs, hN, Side.refl w0⟩
  · rw [h2] at h; exact hok.env.env k x h
  · rw [h1] at h; exact hok.hp.bk b x h
  · rw [h1] at hx hy; exact hok.hp.inj b b' x y hx hy
  · rw [h1] at hy; have := z.srt.lt hy; omega
/-- The text's order is one of those that may be drawn: so each operation's facts are known. -/
theorem facts_all (hc : CallerOK P call) (pa : Pass P call cx ops bef S E) (z : Start ρ0 (S 0) N) (hN : cx.N ≤ N) (hok : Ok cx.N ρ0 (S 0) a0 w0) (hsz : a0.tmps.size = N) :
    ∀ M, M ≤ ops.size → (∀ j, j < M → Fact (E j)) ∧ ∃ ρ a w, Inv ops S E N ρ0 w0 (fun j => decide (j < M)) ρ a w := by
  intro M
  induction M with
  | zero => exact fun _ => ⟨fun j h => by omega, ρ0, a0, w0, inv_start z hok hsz fun k => by simp⟩
  | succ M ih =>
    intro hM
    obtain ⟨hF, ρ, a, w, inv⟩ := ih (by omega)
    have r : Rdy M bef (fun j => decide (j < M)) M := ⟨by simp, Nat.le_refl _, fun k hk => by simpa using hk, fun k hk hk' => by simp at hk'; omega, fun k hk hk' => by simp at hk; omega⟩
    have hupd : upd (fun j => decide (j < M)) M = fun j => decide (j < M + 1) := by
      funext j
      unfold upd
      by_cases h : j = M
      · subst h; simp
      · rw [if_neg h]; exact decide_eq_decide.2 (by omega)
    have step : ∃ ρ' a' w', Inv ops S E N ρ0 w0 (upd (fun j => decide (j < M)) M) ρ' a' w' ∧ Fact (E M) := by
      rcases op_step hc pa (by omega) hF z hN r (by omega) inv with ⟨-, h⟩ | ⟨-, ρ', h1, h2⟩
      · obtain ⟨u, w', ρ', h1, h2⟩ := h.ex; exact ⟨ρ', _, w', h1, h2⟩
      · exact ⟨ρ', _, w, h1, h2⟩
    obtain ⟨ρ', a', w', h1, h2⟩ := step
    refine ⟨fun j hj => ?_, ρ', a', w', hupd ▸ h1⟩
    by_cases h : j = M
    · subst h; exact h2
    · exact hF j (by omega)
theorem hasBit_before {l : List (Oper × Nat)} (hp : planOf ops = some l) : l = ops.toList.zip (Region.before ops).toList ∧ Region.noSelect ops = true ∧ slotsOK ops l = true ∧ edgesOK l = true := by
  obtain ⟨h1, h⟩ := guardO_eq.1 (show guardO (Nat.beq (ops.toList.zip (Region.before ops).toList).length ops.size) (guardO (Region.noSelect ops) (guardO (slotsOK ops (ops.toList.zip (Region.before ops).toList)) (guardO (edgesOK (ops.toList.zip (Region.before ops).toList)) (some (ops.toList.zip (Region.before ops).toList))))) = some l from hp)
  obtain ⟨h2, h⟩ := guardO_eq.1 h
  obtain ⟨h3, h⟩ := guardO_eq.1 h
  obtain ⟨h4, h⟩ := guardO_eq.1 h
  cases h
  exact ⟨rfl, h2, h3, h4⟩
theorem plan_get {l : List (Oper × Nat)} (hp : planOf ops = some l) {j : Nat} {o : Oper} (ho : ops[j]? = some o) : ∃ b, (Region.before ops)[j]? = some b ∧ l[j]? = some (o, b) := by
  obtain ⟨rfl, -⟩ := hasBit_before hp
  have hj := (Array.getElem?_eq_some_iff.1 ho).1
  have hj' : j < (Region.before ops).size := by rw [before_size]; exact hj
  refine ⟨(Region.before ops)[j], Array.getElem?_eq_getElem hj', ?_⟩
  rw [List.getElem?_zip_eq_some]
  exact ⟨by simpa using ho, by simp [hj']⟩
/-- Edges go back. -/
theorem edge_lt {l : List (Oper × Nat)} (hp : planOf ops = some l) {j : Nat} {o : Oper} (ho : ops[j]? = some o) {e : Edge} (he : e ∈ o.after) (hb : Region.binds .any e = true) : e.on < j := by
  obtain ⟨b, -, hl⟩ := plan_get hp ho
  obtain ⟨-, -, -, h4⟩ := hasBit_before hp
  unfold edgesOK at h4
  rw [List.all_eq_true] at h4
  have := h4 ((o, b), j) (List.mem_zipIdx_iff_getElem?.2 hl)
  rw [Array.all_eq_true_iff_forall_mem] at this
  have := this e he
  simp only [hb, Bool.not_true, Bool.false_or, Bool.and_eq_true] at this
  exact Nat.le_of_ble_eq_true this.1
theorem slots_apart {l : List (Oper × Nat)} (hp : planOf ops = some l) {k j : Nat} {ok oj : Oper} {b : Nat} (hk : ops[k]? = some ok) (hj : ops[j]? = some oj) (hb : (Region.before ops)[j]? = some b) (hlt : k < j) (hn : hasBit b k = false) : ok.apart ops oj = true := by
  obtain ⟨b1, -, hl1⟩ := plan_get hp hk
  obtain ⟨b2, e2, hl2⟩ := plan_get hp hj
  rw [hb] at e2
  cases e2
  obtain ⟨-, -, h3, -⟩ := hasBit_before hp
  unfold slotsOK at h3
  rw [List.all_eq_true] at h3
  have := h3 ((ok, b1), k) (List.mem_zipIdx_iff_getElem?.2 hl1)
  rw [List.all_eq_true] at this
  have := this ((oj, b), j) (List.mem_zipIdx_iff_getElem?.2 hl2)
  simp only [hn, Bool.false_or, Bool.or_eq_true] at this
  exact this.resolve_left fun h => by have := Nat.le_of_ble_eq_true h; omega
def befOf (ops : Array Oper) (j : Nat) : Nat := (Region.before ops).getD j 0
theorem befOf_eq {j b : Nat} (h : (Region.before ops)[j]? = some b) : befOf ops j = b := by unfold befOf; rw [Array.getD_eq_getD_getElem?, h]; rfl
theorem any_ok {Q : Exit → Act → World → Prop} (hc : CallerOK P call) {l : List (Oper × Nat)} (hp : planOf ops = some l) (pa : Pass P call cx ops (befOf ops) S E) (z : Start ρ0 (S 0) N) (hN : cx.N ≤ N) (hF : ∀ j, j < ops.size → Fact (E j))
    (hq : ∀ ρ a w, Inv ops S E N ρ0 w0 (fun j => decide (j < ops.size)) ρ a w → Q .normal a w) :
    ∀ (fuel : Nat) (listed : Array Bool) (ρ : Va) (a : Act) (w : World), listed.size = ops.size → listed.toList.count false ≤ fuel → (∀ j o, listed.getD j false = true → ops[j]? = some o → ∀ e ∈ o.after, Region.binds .any e = true → listed.getD e.on false = true) →
      Inv ops S E N ρ0 w0 (fun j => listed.getD j false) ρ a w → wpAny P .any ops Q fuel listed a w := by
  have fin : ∀ (listed : Array Bool) (ρ : Va) (a : Act) (w : World), listed.size = ops.size → (∀ j, j < ops.size → listed.getD j false = true) → Inv ops S E N ρ0 w0 (fun j => listed.getD j false) ρ a w → Q .normal a w := fun listed ρ a w hs hall inv => by
    have hdon : ∀ k, listed.getD k false = true → k < ops.size := fun k hk => by
      rcases Nat.lt_or_ge k listed.size with h | h
      · omega
      · simp [Array.getD_eq_getD_getElem?, Array.getElem?_eq_none h] at hk
    have he : (fun j => listed.getD j false) = fun j => decide (j < ops.size) := by
      funext j
      cases hl : listed.getD j false with
      | true => exact (decide_eq_true (hdon j hl)).symm
      | false => exact (decide_eq_false fun hj => by rw [hall j hj] at hl; cases hl).symm
    rw [he] at inv
    exact hq ρ a w inv
  have none_left : ∀ (listed : Array Bool), listed.size = ops.size → Region.ready .any ops listed = [] → ∀ j, j < ops.size → listed.getD j false = true := fun listed hs hr j => by
    induction j using Nat.strongRecOn with
    | ind j ih =>
      intro hj
      cases hl : listed.getD j false with
      | true => rfl
      | false =>
        exfalso
        have : j ∈ Region.ready .any ops listed := mem_ready.2 ⟨by
          have hj' : j < listed.size := by omega
          simp only [Array.getD_eq_getD_getElem?, Array.getElem?_eq_getElem hj', Option.getD_some] at hl ⊢
          exact hl, ops[j], Array.getElem?_eq_getElem hj, fun e he hb => by
            have hlt := edge_lt hp (Array.getElem?_eq_getElem hj) he hb
            exact ih e.on hlt (by omega)⟩
        rw [hr] at this
        cases this
  intro fuel
  induction fuel with
  | zero =>
    intro listed ρ a w hs hcnt hcl inv
    have hall : ∀ j, j < ops.size → listed.getD j false = true := fun j hj => by
      have hj' : j < listed.size := by omega
      simp only [Array.getD_eq_getD_getElem?, Array.getElem?_eq_getElem hj', Option.getD_some]
      have h0 : listed.toList.count false = 0 := by omega
      have := List.count_eq_zero.1 h0
      cases hx : listed[j] with
      | true => rfl
      | false => exact absurd (by rw [← hx]; simp) this
    refine ⟨?_, fin listed ρ a w hs hall inv⟩
    cases hr : Region.ready .any ops listed with
    | nil => rfl
    | cons j rs =>
      have hm : j ∈ Region.ready .any ops listed := by rw [hr]; exact List.mem_cons_self
      obtain ⟨h1, o, ho, -⟩ := mem_ready.1 hm
      have hj := (Array.getElem?_eq_some_iff.1 ho).1
      have h2 := hall j hj
      have hj' : j < listed.size := by omega
      simp only [Array.getD_eq_getD_getElem?, Array.getElem?_eq_getElem hj', Option.getD_some] at h1 h2
      rw [h1] at h2
      cases h2
  | succ fuel ih =>
    intro listed ρ a w hs hcnt hcl inv
    refine ⟨fun hr => fin listed ρ a w hs (none_left listed hs hr) inv, fun i hi => ?_⟩
    obtain ⟨h1, o, ho, hed⟩ := mem_ready.1 hi
    have hi' := (Array.getElem?_eq_some_iff.1 ho).1
    have hil : i < listed.size := by omega
    have hl : listed[i] = false := by simpa [Array.getD_eq_getD_getElem?, Array.getElem?_eq_getElem hil] using h1
    have hun : listed.getD i false = false := by simp [Array.getD_eq_getD_getElem?, Array.getElem?_eq_getElem hil, hl]
    have hdon : ∀ k, listed.getD k false = true → k < ops.size := fun k hk => by
      rcases Nat.lt_or_ge k listed.size with h | h
      · omega
      · simp [Array.getD_eq_getD_getElem?, Array.getElem?_eq_none h] at hk
    have hbit : ∀ {m k : Nat}, hasBit m k = false ∨ m.testBit k = true := fun {m k} => by rw [hasBit_eq]; cases m.testBit k <;> simp
    have r : Rdy ops.size (befOf ops) (fun j => listed.getD j false) i := by
      refine ⟨hun, Nat.le_of_lt hi', hdon, fun k hk hk' => ?_, fun k hk hk' => ?_⟩
      · obtain ⟨b, hb, -⟩ := plan_get hp ho
        rw [befOf_eq hb]
        refine hbit.resolve_right fun hbb => ?_
        have := before_closed (D := fun j => listed.getD j false) hcl i o b ho hed hb k hbb
        rw [show listed.getD k false = false from hk'] at this
        cases this
      · have hks := hdon k hk
        have hko : ops[k]? = some ops[k] := Array.getElem?_eq_getElem hks
        obtain ⟨b, hb, -⟩ := plan_get hp hko
        rw [befOf_eq hb]
        refine hbit.resolve_right fun hbb => ?_
        have := before_closed (D := fun j => listed.getD j false) hcl k _ b hko (hcl k _ hk hko) hb i hbb
        rw [show listed.getD i false = false from hun] at this
        cases this
    have hs2 : (listed.setIfInBounds i true).size = ops.size := by simp [hs]
    have hcnt2 : (listed.setIfInBounds i true).toList.count false ≤ fuel := by
      rw [Array.toList_setIfInBounds, List.count_set (by simpa using hil)]
      have hpos : 0 < listed.toList.count false := List.count_pos_iff.2 (by rw [← hl]; simp)
      have h3 : listed.toList.count false - 1 + 0 ≤ fuel := by omega
      simpa [hl] using h3
    have hcl2 : ∀ j o, (listed.setIfInBounds i true).getD j false = true → ops[j]? = some o → ∀ e ∈ o.after, Region.binds .any e = true → (listed.setIfInBounds i true).getD e.on false = true := fun j o' hj ho' e he hb => by
      refine getD_set_true ?_
      by_cases hji : j = i
      · subst hji; rw [ho] at ho'; cases ho'; exact hed e he hb
      · rw [getD_set_ne false (Ne.symm hji)] at hj
        exact hcl j o' hj ho' e he hb
    have hD : (fun j => (listed.setIfInBounds i true).getD j false) = upd (fun j => listed.getD j false) i := by
      funext j
      unfold upd
      by_cases hji : j = i
      · subst hji; rw [if_pos rfl]; simp [Array.getD_eq_getD_getElem?, hil]
      · rw [if_neg hji, getD_set_ne false (Ne.symm hji)]
    have hoi : ops[i] = o := by rw [Array.getElem?_eq_getElem hi'] at ho; exact Option.some.inj ho
    have stp := op_step hc pa (Nat.le_refl _) hF z hN r hi' inv
    rw [hoi] at stp
    unfold wpOp
    rw [ho]
    dsimp only
    rcases stp with ⟨hw, h⟩ | ⟨hw, ρ', h, -⟩
    · rw [hw, if_pos rfl]
      exact .inl (h.wp fun u w' ⟨ρ', h, _⟩ => ih _ ρ' _ w' hs2 hcnt2 hcl2 (by rw [hD]; exact h))
    · rw [hw, if_neg (by simp)]
      exact ih _ ρ' _ w hs2 hcnt2 hcl2 (by rw [hD]; exact h)
end
end Go.Ex
