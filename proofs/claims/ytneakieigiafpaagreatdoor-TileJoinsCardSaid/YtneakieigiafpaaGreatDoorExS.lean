/- Ranges over functions: a round's code, as the runner says of it; the law of a range whose iterator tells its elements in order. -/
import Derived.Test.YtneakieigiafpaaGreatDoorExJM
import Derived.RangeFuncNested
import Derived.RangeFuncBound
import Derived.OwnWalkIn
import Derived.DefersIn
namespace Go.Ex
open Go Go.RowKit
variable {P : Program} {cx : Cx} {s s' : St} {ρ : Va} {a : Act} {w : World}

/-! ### What no operation of the runner turns -/
theorem HpOK.grown {n : Nat} {H : List Hp} {W W' : World} {row : Option Nat} (h : HpOK ρ n H W) (hg : W.grownBy W' row) (hr : ∀ r, row = some r → ∃ o : Obj, W.heap[r]? = some o ∧ o.isCells = false) : HpOK ρ n H W' :=
  ⟨h.srt, h.sc, fun b bl hb => (h.bk b bl hb).keep rfl rfl (fun _ _ => rfl) (hg.block _ (h.bk b bl hb).lt fun e => by
    obtain ⟨o, ho, hc⟩ := hr _ e.symm
    obtain ⟨arr, t, fz, hbl, -⟩ := h.bk b bl hb
    rw [hbl] at ho; cases ho; cases hc), h.inj, h.glob, h.big⟩
theorem Ext.grown {L : List Nat} {n n' : Nat} {H H' : List Hp} {ρ' : Va} {W W' : World} {row : Option Nat} (h : Ext L ρ n H w ρ' n' H' W) (hg : W.grownBy W' row) (hr : ∀ r, row = some r → w.heap.size ≤ r) : Ext L ρ n H w ρ' n' H' W' where
  le := h.le
  size := Nat.le_trans h.size hg.size
  agr := h.agr
  nrev := h.nrev
  frame := fun r hr' hno => (hg.block r (Nat.lt_of_lt_of_le hr' h.size) fun e => by have := hr r e.symm; omega).trans (h.frame r hr' hno)
  vis := h.vis
  new := h.new
  side := h.side.trans ⟨hg.os, hg.tape, hg.output⟩
theorem Mv.grown {base : Nat} {ρ' : Va} {W W' : World} {row : Option Nat} (h : Mv base ρ s w ρ' s' W) (hg : W.grownBy W' row) (hr : ∀ r, row = some r → w.heap.size ≤ r) : Mv base ρ s w ρ' s' W' := let ⟨L, x, hl⟩ := h; ⟨L, x.grown hg hr, hl⟩
/-- What is no row of cells stays as it is. -/
theorem Ext.stays {L : List Nat} {n n' : Nat} {H H' : List Hp} {ρ' : Va} {w' : World} (h : Ext L ρ n H w ρ' n' H' w') (hh : HpOK ρ n H w) {k : Nat} {o : Obj} (hk : w.heap[k]? = some o) (ho : o.isCells = false) : w'.heap[k]? = some o :=
  (h.frame k (Array.getElem?_eq_some_iff.1 hk).1 fun b hb hbn e => by
    obtain ⟨x, hx⟩ := h.vis b hb hbn
    obtain ⟨arr, t, fz, hbl, -⟩ := hh.bk b x hx
    rw [e, hk] at hbl; cases hbl; cases ho).trans hk
theorem Ext.keeps {L : List Nat} {n n' : Nat} {H H' : List Hp} {ρ' : Va} {w' : World} (h : Ext L ρ n H w ρ' n' H' w') (hh : HpOK ρ n H w) (B : Nat) : KeepsFrom B w w' := ⟨h.size, fun _ _ _ hk ho => h.stays hh hk ho⟩

/-! ### Blocks for rounds' deferred calls -/
/-- They lie from lo on, each another, each with no call. -/
def ColOK (lo : Nat) (ρ : Va) (w : World) : List (Nat × List SV) → Prop
  | [] => True
  | d :: l => (∃ b, d.2 = [.ptr b 0] ∧ lo ≤ ρ.blk b ∧ w.heap[ρ.blk b]? = some (.deferred (some [])) ∧ ∀ d' ∈ l, ∀ b', d'.2 = [.ptr b' 0] → ρ.blk b' ≠ ρ.blk b) ∧ ColOK lo ρ w l
theorem colsOf_mem {d : Nat × List SV} : ∀ {l : List (Nat × List SV)}, d ∈ colsOf l → d ∈ l ∧ d.1 = colTag
  | e :: l, h => by
    unfold colsOf at h
    split at h
    · rename_i he
      rcases List.mem_cons.1 h with rfl | h
      · exact ⟨by simp, he⟩
      · exact ⟨List.mem_cons_of_mem _ (colsOf_mem h).1, (colsOf_mem h).2⟩
    · exact ⟨List.mem_cons_of_mem _ (colsOf_mem h).1, (colsOf_mem h).2⟩
theorem DefOK.col {n : Nat} : ∀ {l : List (Nat × List SV)} {ds : List Deferred}, DefOK ρ n l ds → ∀ d ∈ l, d.1 = colTag → ∃ b, d.2 = [.ptr b 0] ∧ b < n
  | (f, as) :: l, d :: ds, ⟨h, hl⟩, e, he, ht => by
    rcases List.mem_cons.1 he with rfl | he
    · rcases h with h | ⟨-, b, h1, h2, -⟩
      · exact absurd ht h.1
      · exact ⟨b, h1, h2⟩
    · exact hl.col e he ht
theorem ColOK.move {lo n n' : Nat} {L : List Nat} {H H' : List Hp} {ρ' : Va} {w' : World} (h : Ext L ρ n H w ρ' n' H' w') (hh : HpOK ρ n H w) : ∀ {l : List (Nat × List SV)}, (∀ d ∈ l, ∃ b, d.2 = [.ptr b 0] ∧ b < n) → ColOK lo ρ w l → ColOK lo ρ' w' l
  | [], _, _ => trivial
  | d :: l, hl, ⟨⟨b, h1, h2, h3, h4⟩, hc⟩ => by
    obtain ⟨b0, e0, hb0⟩ := hl d (by simp)
    have eb : b0 = b := by rw [h1] at e0; injection e0 with e0; injection e0 with e0; exact e0.symm
    subst eb
    have hbe := (h.ag b0 hb0).1
    refine ⟨⟨b0, h1, by rw [hbe]; exact h2, by rw [hbe]; exact h.stays hh h3 rfl, fun d' hd' b' hb' => ?_⟩, ColOK.move h hh (fun d' hd' => hl d' (List.mem_cons_of_mem _ hd')) hc⟩
    obtain ⟨b1, e1, hb1⟩ := hl d' (List.mem_cons_of_mem _ hd')
    have eb1 : b1 = b' := by rw [hb'] at e1; injection e1 with e1; injection e1 with e1; exact e1.symm
    subst eb1
    rw [hbe, (h.ag b1 hb1).1]
    exact h4 d' hd' b1 hb'
theorem ColOK.mv {lo base : Nat} {ρ' : Va} {w' : World} (mv : Mv base ρ s w ρ' s' w') (hh : HpOK ρ s.n s.heap w) {ds : List Deferred} (hd : DefOK ρ s.n s.defs ds) (hc : ColOK lo ρ w (colsOf s.defs)) (he : colsOf s'.defs = colsOf s.defs) : ColOK lo ρ' w' (colsOf s'.defs) := by
  obtain ⟨L, x, -⟩ := mv
  rw [he]
  exact ColOK.move x hh (fun d hm => hd.col d (colsOf_mem hm).1 (colsOf_mem hm).2) hc

/-! ### A round's regions -/
theorem Oper.wpIn_of_wp {l n : Nat} {o : Oper} {next : Act → World → Prop} {Q : Exit → Act → World → Prop} (hd : isDefer o.op = false) (h : Oper.wp P o a w next Q) : o.wpIn (Fence.wide.inRound l) n P a w next Q := by
  unfold Oper.wp at h
  unfold Oper.wpIn
  refine ⟨fun _ _ => trivial, ?_⟩
  rw [Oper.semAt_eq _ _ _ (fun c e => by rw [e] at hd; cases hd)]
  generalize (execOp a.eval o).run P w = r at *
  cases r with
  | ok x w' =>
    cases x <;> simp only [Oper.upon] at h <;> simp only [Oper.uponIn]
    case value => exact h
    case skip => exact h
    case defer => exact h
    case enter f args => exact ⟨fun h0 => by simp [Fence.inRound, Fence.wide] at h0, callsIn_wide.2 h⟩
    case row r args => exact ⟨fun h0 => by simp [Fence.inRound, Fence.wide] at h0, fun c cs _ => let ⟨v, w2, r9, s9⟩ := h c cs; ⟨v, w2, r9, stepsIn_wide.2 s9⟩⟩
  | halt x w' => cases x <;> simp only [Oper.upon] at h <;> simp only [Oper.uponIn]; exact h
/-- The normal way out, and no other. -/
def OnlyN (Q : Exit → Act → World → Prop) : Exit → Act → World → Prop
  | .normal, a, w => Q .normal a w
  | _, _, _ => False
theorem OnlyN.imp {Q : Exit → Act → World → Prop} : ∀ (e : Exit) (a : Act) (w : World), OnlyN Q e a w → Q e a w := fun e a w h => by
  cases e <;> first | exact h | exact (h : False).elim
theorem OnlyN.out {Q : Exit → Act → World → Prop} : ¬ LetsOut (OnlyN Q) := fun ⟨_, _, h⟩ => h
theorem noDefers_mem {l : List Oper} (h : noDefers l = true) : ∀ o ∈ l, isDefer o.op = false := by
  induction l with
  | nil => intro o ho; cases ho
  | cons x l ih =>
    replace h : ifB (isDefer x.op) false (noDefers l) = true := h
    intro o ho
    cases hx : isDefer x.op with
    | true => rw [hx, ifB_true] at h; cases h
    | false =>
      rw [hx, ifB_false] at h
      rcases List.mem_cons.1 ho with rfl | ho
      · exact hx
      · exact ih h o ho
theorem listIn_of {l n : Nat} {ops : Array Oper} {Q : Exit → Act → World → Prop} (hout : ¬ LetsOut Q) : ∀ {rest : List Oper} {a : Act} {w : World}, (∀ o ∈ rest, isDefer o.op = false) → wpList P ops Q rest a w → wpListIn (Fence.wide.inRound l) n P ops Q rest a w
  | [], _, _, _, h => h
  | o :: rest, a, w, hd, h => by
    unfold wpList at h
    unfold wpListIn
    split at h
    · rename_i hw
      rw [if_pos hw]
      rcases h with h | h
      · exact Oper.wpIn_of_wp (hd o (by simp)) (Oper.wp_mono (fun a' w' h' => listIn_of hout (fun o ho => hd o (List.mem_cons_of_mem _ ho)) h') h)
      · exact absurd h.2 hout
    · rename_i hw
      rw [if_neg hw]
      exact ⟨fun _ _ => trivial, listIn_of hout (fun o ho => hd o (List.mem_cons_of_mem _ ho)) h⟩
theorem anyIn_of {l n : Nat} {md : Region.Mode} {ops : Array Oper} {Q : Exit → Act → World → Prop} (hd : ∀ o ∈ ops.toList, isDefer o.op = false) (hout : ¬ LetsOut Q) : ∀ (fuel : Nat) (listed : Array Bool) (a : Act) (w : World), wpAny P md ops Q fuel listed a w → wpAnyIn (Fence.wide.inRound l) n P md ops Q fuel listed a w
  | 0, _, _, _, h => h
  | fuel + 1, listed, a, w, h => ⟨h.1, fun i hi => by
    have h1 := h.2 i hi
    unfold wpOp at h1
    unfold wpOpIn
    split
    · rename_i ho; simp only [ho] at h1; exact anyIn_of hd hout fuel _ _ _ h1
    · rename_i o ho
      simp only [ho] at h1
      split
      · rename_i hw
        simp only [hw, if_true] at h1
        rcases h1 with h1 | h1
        · exact Oper.wpIn_of_wp (hd o (by rw [Array.mem_toList_iff]; exact Array.mem_of_getElem? ho)) (Oper.wp_mono (fun a' w' h' => anyIn_of hd hout fuel _ a' w' h') h1)
        · exact absurd h1.2 hout
      · rename_i hw
        simp only [hw] at h1
        exact ⟨fun _ _ => trivial, anyIn_of hd hout fuel _ _ _ h1⟩⟩

/-! ### A round's loops -/
def LoopWpR (l n : Nat) (P : Program) (c : Code) (Q : Exit → Act → World → Prop) (a : Act) (w : World) : Prop := ∀ (b : Frame) (k : List Item) (cs : List Frame), b.roundOf = (Fence.wide.inRound l).round → (Fence.wide.inRound l).fn b.fn → (Fence.wide.inRound l).room (cs.length + 1 + n) →
  ∃ e a' w', Q e a' w' ∧ ArrivesIn (Machine.fenced P (Fence.wide.inRound l)) P (lone (b.atR a (.code c :: .inLoop c :: k)) cs w) b k cs e a' w'
theorem wpR_of_loop {l n : Nat} {c : Code} {Q : Exit → Act → World → Prop} (h : LoopWpR l n P c Q a w) : (Code.loop c).wpIn (Fence.wide.inRound l) n P Q a w := fun b k cs hro hb hr => let ⟨e, a', w', hq, harr⟩ := h b k cs hro hb hr; ⟨e, a', w', hq, .of_steps (.one (fenced_calm hb hr rfl) stepR_loop) harr⟩
theorem loopR_round {l n : Nat} {c : Code} {Q : Exit → Act → World → Prop} (h : c.wpIn (Fence.wide.inRound l) n P (Exit.then (LoopWpR l n P c Q) Q) a w) : LoopWpR l n P c Q a w := by
  intro b k cs hro hb hr
  obtain ⟨e, a₁, w₁, hq, harr⟩ := h b (.inLoop c :: k) cs hro hb hr
  cases e with
  | normal =>
    obtain ⟨e₂, a₂, w₂, hq₂, harr₂⟩ := hq b k cs hro hb hr
    exact ⟨e₂, a₂, w₂, hq₂, .of_steps (StepsIn.trans harr (.one (fenced_calm hb hr rfl) stepR_inLoop)) harr₂⟩
  | exit id => exact ⟨_, a₁, w₁, hq, .pass (x := .inLoop c) rfl (fun _ _ => .inl (by simp)) harr⟩
  | goto l => exact ⟨_, a₁, w₁, hq, .pass (x := .inLoop c) rfl (fun _ _ => .inl (by simp)) harr⟩
  | ret => exact ⟨_, a₁, w₁, hq, .pass (x := .inLoop c) rfl (fun _ _ => .inl (by simp)) harr⟩
  | panic ch => exact ⟨_, a₁, w₁, hq, .pass (x := .inLoop c) rfl (fun _ _ => .inl (by simp)) harr⟩
  | outgrown => exact ⟨_, a₁, w₁, hq, .pass (x := .inLoop c) rfl (fun _ _ => .inl (by simp)) harr⟩

/-! ### A range whose iterator tells its elements in order, and is never stopped -/
def SeqEx (P : Program) (g : Nat) (lb : Array Value) (encs : Nat → Array Value) (Kp : World → World → Prop) (N : Nat) (w : World) : Prop :=
  ∀ (l : Nat) (J : Nat → World → Prop) (W : World), Below w.heap.size w W → AbidesFrom W.heap.size J →
    (∀ k W1, J k W1 → k < N → YieldAt Fence.wide 3 P l (encs k) W1 fun e W' => e = .returned (.bool true) ∧ J (k + 1) W' ∧ Kp W1 W') →
    J 0 W → CallsIn Fence.wide 4 P g (#[.func (.yield l) #[] #[]] ++ lb) W fun e W' => (∃ v, e = .returned v) ∧ J N W'
/-- The loop's own record. -/
def recX (fn : FuncId) (tmps : Array Value) (ps : Array Tmp) (assign body : Code) (D : Nat) (st : LoopState) (pe : Option Code) : Loop := { state := st, pending := pe, fn, tmps, params := ps, assign, body, defers := D }
structure BooksX (W : World) (L D : Nat) (r : Loop) : Prop where
  loop : W.heap[L]? = some (.loop r)
  defs : W.heap[D]? = some (.deferred (some []))
theorem BooksX.grown {A B : World} {row : Option Nat} {L D : Nat} {r : Loop} (h : BooksX A L D r) (hg : A.grownBy B row) (hr : ∀ k, row = some k → ∃ o : Obj, A.heap[k]? = some o ∧ o.isWalk = true) : BooksX B L D r :=
  ⟨(grownBy_keeps hg hr h.loop rfl).trans h.loop, (grownBy_keeps hg hr h.defs rfl).trans h.defs⟩
theorem BooksX.keeps {A B : World} {n₀ L D : Nat} {r : Loop} (h : BooksX A L D r) (hk : KeepsFrom n₀ A B) (hL : n₀ ≤ L) (hD : n₀ ≤ D) : BooksX B L D r :=
  ⟨hk.same _ _ hL h.loop rfl, hk.same _ _ hD h.defs rfl⟩
theorem BooksX.put {W : World} {L D : Nat} {r : Loop} (h : BooksX W L D r) (hne : D ≠ L) (r' : Loop) : BooksX (W.putObj L (.loop r')) L D r' :=
  ⟨World.putObj_heap_same (Array.getElem?_eq_some_iff.1 h.loop).1, (World.putObj_heap_other hne).trans h.defs⟩
theorem wp_rangeEx {g : Operand} {ps : Array Tmp} {assign body : Code} {Q : Exit → Act → World → Prop} {gf : Nat} {lb : Array Value} (hg : a.eval g = .func (.func gf) #[] lb) (eg : ∀ args w, (callFunc gf args).run P w = .ok (.enter gf args) w)
    {encs : Nat → Array Value} {Kp : World → World → Prop} {N : Nat} (hseq : SeqEx P gf lb encs Kp N w) (hKt : ∀ {A B C : World}, Kp A B → Kp B C → Kp A C) (hKb : ∀ (W : World) (l : Nat) (o o' : Obj), W.heap[l]? = some o → o.isCells = false → Kp W (W.putObj l o')) (hps : ∀ k, k < N → (encs k).size = ps.size)
    (I : Nat → World → Prop) (hI : OwnFrom w.heap.size I) (h0 : I 0 w) (Ax : Nat → Act → World → Prop) (hAx : ∀ k a', OwnFrom w.heap.size (fun (_ : Unit) W => Ax k a' W))
    (hassign : ∀ (l k : Nat) (W : World) (K : Act → World → Prop), k < N → I k W → (∀ a' W', KeepsFrom w.heap.size W W' → Kp W W' → Ax k a' W' → K a' W') →
      assign.wpIn (Fence.wide.inRound l) 3 P (Exit.then K (fun _ _ _ => False)) { tmps := (ps.zip (encs k)).foldl (fun t (p, v) => t.setIfInBounds p v) a.tmps, defers := [] } W)
    (hbody : ∀ (l k : Nat) (a' : Act) (W : World), k < N → Ax k a' W → body.wpIn (Fence.wide.inRound l) 3 P (fun e _ W' => e = .normal ∧ KeepsFrom w.heap.size W W' ∧ Kp W W' ∧ I (k + 1) W') a' W)
    (hdone : ∀ W, I N W → W.heap[w.heap.size]? = some (.deferred (some [])) → Q .normal { a with defers := { target := .collected w.heap.size, args := #[] } :: a.defers } W) : (Code.rangeFunc g ps assign body).wp P Q a w := by
  refine (wpIn_wide (n := 5)).1 (wpIn_rangeFunc fun fn hfn => ?_)
  obtain ⟨W1, hW1⟩ : ∃ W1, W1 = (w.alloc (.deferred (some []))).alloc (.loop (recX fn a.tmps ps assign body w.heap.size .ready none)) := ⟨_, rfl⟩
  have hsz : W1.heap.size = w.heap.size + 2 := by rw [hW1]; simp
  have hB1 : BooksX W1 (w.heap.size + 1) w.heap.size (recX fn a.tmps ps assign body w.heap.size .ready none) := by
    rw [hW1]
    have h9 := World.alloc_heap_new (w.alloc (.deferred (some []))) (.loop (recX fn a.tmps ps assign body w.heap.size .ready none))
    rw [World.size_alloc] at h9
    exact ⟨h9, (Below.heap_alloc _ _ _ (by simp)).trans (World.alloc_heap_new w _)⟩
  have hI1 : I 0 W1 := by rw [hW1]; exact hI.alloc _ (hI.alloc _ h0)
  have hb1 : Below w.heap.size w W1 := by
    rw [hW1]; exact ((Below.refl _ w).alloc (Nat.le_refl _) _).alloc (by simp) _
  refine ⟨w.heap.size + 1, [{ target := .collected w.heap.size, args := #[] }], W1, { target := .fn (.func gf) lb, args := #[.func (.yield (w.heap.size + 1)) #[] #[]] }, W1, gf,
    #[.func (.yield (w.heap.size + 1)) #[] #[]] ++ lb, W1, by rw [hW1]; exact run_enterLoop_outer _ _ _ _ _, by simp only [resolve, hg]; simp [go_sem], fun f' hf' => trivial, by simp [invoke, go_sem, eg], fun h => by simp [Fence.wide] at h, ?_⟩
  have hnw : ∀ {A : World} {row : Option Nat}, (∀ r, row = some r → W1.heap.size ≤ r ∧ ∃ o : Obj, A.heap[r]? = some o ∧ o.isWalk = true) → (∀ r, row = some r → w.heap.size ≤ r ∧ ∃ o : Obj, A.heap[r]? = some o ∧ o.isCells = false) :=
    fun hr r e => by obtain ⟨hB, o, ho, hw⟩ := hr r e; exact ⟨by omega, o, ho, Obj.not_cells_of_walk hw⟩
  refine (hseq (w.heap.size + 1)
    (fun k W => I k W ∧ BooksX W (w.heap.size + 1) w.heap.size (recX fn a.tmps ps assign body w.heap.size .ready none))
    W1 hb1 (fun s A B row hs hg' hr => ⟨hI s A B row hs.1 hg' (hnw hr), hs.2.grown hg' (fun r e => (hr r e).2)⟩) (fun k W hj hlen => ?_) ⟨hI1, hB1⟩).mono ?_
  · obtain ⟨hi, hb⟩ := hj
    have hy := run_yield (P := P) (args := encs k) hb.loop (hps k hlen)
    refine ⟨fn, _, assign, body, hy, roundIn_of_wpIn hfn (hassign _ k W _ hlen hi fun a' Wa hkf hkp hax => ?_)⟩
    clear hy
    have hba := hb.keeps hkf (Nat.le_succ _) (Nat.le_refl _)
    refine ⟨_, run_beginRound hba.loop rfl, ?_⟩
    have hbb := hba.put (by omega) { recX fn a.tmps ps assign body w.heap.size .ready none with state := .busy }
    refine wpIn_mono (hbody _ k a' _ hlen ((hAx k a').putObj (s := ()) _ hax (Nat.le_succ _) hba.loop rfl)) ?_
    rintro e a3 W3 ⟨rfl, hk3, hkp3, hi3⟩
    have hb3 := hbb.keeps hk3 (Nat.le_succ _) (Nat.le_refl _)
    have hput := hb3.put (by omega) (recX fn a.tmps ps assign body w.heap.size .ready none)
    exact ⟨_, _, run_endRound (P := P) none hb3.loop, rfl, ⟨hI.putObj _ hi3 (Nat.le_succ _) hb3.loop rfl, hput⟩, hKt hkp (hKt (hKt (hKb _ _ _ _ hba.loop rfl) hkp3) (hKb _ _ _ _ hb3.loop rfl))⟩
  · rintro e W2 ⟨⟨v, rfl⟩, hi, hb⟩
    exact ⟨none, _, run_endLoop (P := P) hb.loop (by simp [recX]), hdone _ (hI.putObj _ hi (Nat.le_succ _) hb.loop rfl) ((World.putObj_heap_other (by omega)).trans hb.defs)⟩

/-! ### What the runner is told of iterators -/
/-- The blocks of deps stay. -/
def KpI (ρ : Va) (deps : List Nat) (X Y : World) : Prop := X.heap.size ≤ Y.heap.size ∧ ∀ b ∈ deps, ∀ o : Obj, X.heap[ρ.blk b]? = some o → o.isCells = true → Y.heap[ρ.blk b]? = some o
theorem KpI.trans {deps : List Nat} {X Y Z : World} (h : KpI ρ deps X Y) (k : KpI ρ deps Y Z) : KpI ρ deps X Z := ⟨Nat.le_trans h.1 k.1, fun b hb o ho hc => k.2 b hb o (h.2 b hb o ho hc) hc⟩
theorem KpI.put {deps : List Nat} (W : World) (l : Nat) (o o' : Obj) (hl : W.heap[l]? = some o) (ho : o.isCells = false) : KpI ρ deps W (W.putObj l o') :=
  ⟨by simp, fun b _ o2 h2 hc => by
    by_cases e : ρ.blk b = l
    · rw [e, hl] at h2; cases h2; rw [ho] at hc; cases hc
    · exact (World.putObj_heap_other e).trans h2⟩
def ItOK (P : Program) (it : ItO) : Prop := ∀ f caps heap deps els, it f caps heap = some (deps, els) →
  (∀ el ∈ els, ∀ x ∈ el, ∀ n, Sc n x) ∧ (∀ b ∈ deps, ∃ bl, hget heap b = some bl) ∧ (∀ args w, (callFunc f args).run P w = .ok (.enter f args) w) ∧
  ∀ ρ n w, HpOK ρ n heap w → ∃ encs : Nat → Array Value, (∀ k el, els[k]? = some el → encs k = (el.map (SV.conc ρ)).toArray) ∧ SeqEx P f (caps.map (SV.conc ρ)).toArray encs (KpI ρ deps) els.length w
def QuietOK (P : Program) (qt : Nat → List SV → Bool) : Prop := ∀ f as, qt f as = true → ∀ ρ w, (callFunc f (as.map (SV.conc ρ)).toArray).run P w = .ok (.enter f (as.map (SV.conc ρ)).toArray) w ∧ CallsDIn Fence.wide 4 P f (as.map (SV.conc ρ)).toArray .returning w fun e u' w' => (∃ v, e = .returned v) ∧ u' = .returning ∧ Below w.heap.size w w'
structure ItsOK (P : Program) (I : Its) : Prop where
  it : ItOK P I.it
  qt : QuietOK P I.qt
theorem noIts_ok : ItsOK P noIts := ⟨fun _ _ _ _ _ h => (by cases h), fun _ _ h => (by cases h)⟩
end Go.Ex
