/- A range over an iterator that offers memory of its own: the contract tells what holds of an element where it is offered (R); the assign code may use it. -/
import Derived.RangeFuncNested
import Derived.RangeFuncBound
import Derived.OwnWalkIn
import Derived.Test.YtneakieigiafpaaGreatDoorMemX
namespace Go.Proofs.YtneakieigiafpaaGreatDoor
open Go.RowKit
variable {F : Fence} {n : Nat} {P : Program} {w : World}

/-- The iterator's contract: what it offers meets R in the world where it is offered. -/
def SeqOffers {α : Type} (F : Fence) (n : Nat) (P : Program) (g : Nat) (lb : Array Value) (encs : α → Array Value) (Kp : World → World → Prop) (R : List α → α → World → Prop) (S Sp : List α → Prop) (N : Nat) (w : World) : Prop :=
  ∀ (l : Nat) (J Jx : List α → World → Prop) (W : World), Below w.heap.size w W → AbidesFrom W.heap.size J → AbidesFrom W.heap.size Jx →
    (∀ pre x W1, J pre W1 → R pre x W1 → pre.length < N → YieldAt F (n - 1) P l (encs x) W1 fun e W' =>
      (e = .returned (.bool true) ∧ J (pre ++ [x]) W' ∧ Kp W1 W') ∨ (e = .returned (.bool false) ∧ Jx (pre ++ [x]) W')) →
    J [] W →
    CallsIn F n P g (#[.func (.yield l) #[] #[]] ++ lb) W fun e W' => (∃ v, e = .returned v) ∧ ((∃ xs, S xs ∧ J xs W') ∨ (∃ pre, Sp pre ∧ Jx pre W'))

section
variable {α : Type} {fn : FuncId} {tmps : Array Value} {ps : Array Tmp} {assign body : Code}
/-- The loop's own record. -/
def recO (fn : FuncId) (tmps : Array Value) (ps : Array Tmp) (assign body : Code) (D : Nat) (st : LoopState) (pe : Option Code) : Loop := { state := st, pending := pe, fn, tmps, params := ps, assign, body, defers := D }
/-- What the law keeps beside the caller's invariant: its record, its block of deferred calls. -/
structure Books (W : World) (L D : Nat) (r : Loop) : Prop where
  loop : W.heap[L]? = some (.loop r)
  defs : W.heap[D]? = some (.deferred (some []))
theorem Books.grown {A B : World} {row : Option Nat} {L D : Nat} {r : Loop} (h : Books A L D r) (hg : A.grownBy B row) (hr : ∀ k, row = some k → ∃ o : Obj, A.heap[k]? = some o ∧ o.isWalk = true) : Books B L D r :=
  ⟨(grownBy_keeps hg hr h.loop rfl).trans h.loop, (grownBy_keeps hg hr h.defs rfl).trans h.defs⟩
theorem Books.keeps {A B : World} {n₀ L D : Nat} {r : Loop} (h : Books A L D r) (hk : KeepsFrom n₀ A B) (hL : n₀ ≤ L) (hD : n₀ ≤ D) : Books B L D r :=
  ⟨hk.same _ _ hL h.loop rfl, hk.same _ _ hD h.defs rfl⟩
theorem Books.lt {W : World} {L D : Nat} {r : Loop} (h : Books W L D r) : L < W.heap.size := (Array.getElem?_eq_some_iff.1 h.loop).1
theorem Books.put {W : World} {L D : Nat} {r : Loop} (h : Books W L D r) (hne : D ≠ L) (r' : Loop) : Books (W.putObj L (.loop r')) L D r' :=
  ⟨World.putObj_heap_same h.lt, (World.putObj_heap_other hne).trans h.defs⟩
end

/-- One round, out of the walks of the assign code and of the body. -/
theorem round_offered {α : Type} {fn : FuncId} {tmps : Array Value} {ps : Array Tmp} {assign body : Code} {n₀ L D : Nat} {Kp : World → World → Prop} {I : List α → World → Prop} {Ix : Code → List α → World → Prop} {Ax : α → Act → World → Prop}
    {pre : List α} {x : α} {args : Array Value} {W : World} (hfn : F.fn fn) (hL : n₀ ≤ L) (hD : n₀ ≤ D) (hne : D ≠ L)
    (hKt : ∀ {A B C : World}, Kp A B → Kp B C → Kp A C) (hKb : ∀ (W : World) (l : Nat) (o o' : Obj), n₀ ≤ l → W.heap[l]? = some o → o.isCells = false → o.isWalk = false → Kp W (W.putObj l o'))
    (hI : OwnFrom n₀ I) (hIx : ∀ c, OwnFrom n₀ (Ix c)) (hAx : ∀ x a', OwnFrom n₀ (fun (_ : Unit) W => Ax x a' W)) (hps : args.size = ps.size)
    (hb : Books W L D (recO fn tmps ps assign body D .ready none))
    (hassign : ∀ K : Act → World → Prop, (∀ a' W', KeepsFrom n₀ W W' → Kp W W' → I pre W' → Ax x a' W' → K a' W') →
      assign.wpIn (F.inRound L) n P (Exit.then K (fun _ _ _ => False)) { tmps := (ps.zip args).foldl (fun t (p, v) => t.setIfInBounds p v) tmps, defers := [] } W)
    (hbody : ∀ (a' : Act) (W : World), (∃ r, W.heap[L]? = some (.loop r)) → I pre W → Ax x a' W → body.wpIn (F.inRound L) n P (ownPostG n₀ Kp I Ix (pre ++ [x]) W) a' W) :
    YieldAt F n P L args W fun e W' =>
      (e = .returned (.bool true) ∧ (I (pre ++ [x]) W' ∧ Books W' L D (recO fn tmps ps assign body D .ready none)) ∧ Kp W W') ∨
      (e = .returned (.bool false) ∧ ∃ c, Ix c (pre ++ [x]) W' ∧ Books W' L D (recO fn tmps ps assign body D .done (some c))) := by
  have hy := run_yield (P := P) (args := args) hb.loop hps
  refine ⟨fn, _, assign, body, hy, roundIn_of_wpIn hfn (hassign _ fun a' Wa hkf hkp hia hax => ?_)⟩
  clear hy
  have hba := hb.keeps hkf hL hD
  refine ⟨_, run_beginRound hba.loop rfl, ?_⟩
  have hbb := hba.put hne { recO fn tmps ps assign body D .ready none with state := .busy }
  refine wpIn_mono (hbody a' _ ⟨_, hbb.loop⟩ (hI.putObj _ hia hL hba.loop rfl) ((hAx x a').putObj (s := ()) _ hax hL hba.loop rfl)) ?_
  -- what the round's end does to the record
  have fin : ∀ (jump : Option Code) (W3 : World), KeepsFrom n₀ (Wa.putObj L (.loop { recO fn tmps ps assign body D .ready none with state := .busy })) W3 →
      (Instr.endRound L jump).run P W3 = .ok (.bool jump.isNone) (W3.putObj L (.loop (recO fn tmps ps assign body D (if jump.isNone then .ready else .done) jump))) ∧
      W3.heap[L]? = some (.loop { recO fn tmps ps assign body D .ready none with state := .busy }) ∧
      Books (W3.putObj L (.loop (recO fn tmps ps assign body D (if jump.isNone then .ready else .done) jump))) L D (recO fn tmps ps assign body D (if jump.isNone then .ready else .done) jump) := fun jump W3 hk3 => by
    have hb3 := hbb.keeps hk3 hL hD
    exact ⟨run_endRound (P := P) jump hb3.loop, hb3.loop, hb3.put hne _⟩
  rintro e a3 W3 hp
  cases e with
  | normal =>
    obtain ⟨hk3, hkp3, hi3⟩ := hp
    obtain ⟨hr, hl3, hb3⟩ := fin none W3 hk3
    exact ⟨_, _, hr, .inl ⟨rfl, ⟨hI.putObj _ hi3 hL hl3 rfl, hb3⟩, hKt hkp (hKt (hKt (hKb _ _ _ _ hL hba.loop rfl rfl) hkp3) (hKb _ _ _ _ hL hl3 rfl rfl))⟩⟩
  | ret =>
    obtain ⟨hk3, hi3⟩ := hp
    obtain ⟨hr, hl3, hb3⟩ := fin (some .ret) W3 hk3
    exact ⟨_, _, hr, .inr ⟨rfl, .ret, (hIx _).putObj _ hi3 hL hl3 rfl, hb3⟩⟩
  | exit id =>
    obtain ⟨hk3, hi3⟩ := hp
    obtain ⟨hr, hl3, hb3⟩ := fin (some (.exit id)) W3 hk3
    exact ⟨_, _, hr, .inr ⟨rfl, .exit id, (hIx _).putObj _ hi3 hL hl3 rfl, hb3⟩⟩
  | goto t =>
    obtain ⟨hk3, hi3⟩ := hp
    obtain ⟨hr, hl3, hb3⟩ := fin (some (.goto t)) W3 hk3
    exact ⟨_, _, hr, .inr ⟨rfl, .goto t, (hIx _).putObj _ hi3 hL hl3 rfl, hb3⟩⟩
  | panic ch => exact hp.elim
  | outgrown => exact hp.elim

/-- A range over an iterator that offers: an outermost loop. -/
theorem wpIn_rangeOffers {α : Type} {g : Operand} {ps : Array Tmp} {assign body : Code} {Q : Exit → Act → World → Prop} {a : Act} {w : World}
    (hro : F.round = none) (h1 : 1 ≤ n) {gf : Nat} {lb : Array Value} (hg : a.eval g = .func (.func gf) #[] lb) (hFg : F.fn gf) (eg : ∀ args w, (callFunc gf args).run P w = .ok (.enter gf args) w)
    {encs : α → Array Value} {Kp : World → World → Prop} {R : List α → α → World → Prop} {S Sp : List α → Prop} {N : Nat} {w0 : World} (hseq : SeqOffers F (n - 1) P gf lb encs Kp R S Sp N w0)
    (hKt : ∀ {A B C : World}, Kp A B → Kp B C → Kp A C) (hKb : ∀ (W : World) (l : Nat) (o o' : Obj), w.heap.size ≤ l → W.heap[l]? = some o → o.isCells = false → o.isWalk = false → Kp W (W.putObj l o')) (hb0 : Below w0.heap.size w0 w) (hps : ∀ x, (encs x).size = ps.size)
    (I : List α → World → Prop) (Ix : Code → List α → World → Prop) (hI : OwnFrom w.heap.size I) (hIx : ∀ c, OwnFrom w.heap.size (Ix c)) (h0 : I [] w) (Ax : α → Act → World → Prop) (hAx : ∀ x a', OwnFrom w.heap.size (fun (_ : Unit) W => Ax x a' W))
    (hassign : ∀ (l : Nat) (pre : List α) (x : α) (W : World) (K : Act → World → Prop), I pre W → R pre x W → (∀ a' W', KeepsFrom w.heap.size W W' → Kp W W' → I pre W' → Ax x a' W' → K a' W') →
      assign.wpIn (F.inRound l) (n - 1 - 1) P (Exit.then K (fun _ _ _ => False)) { tmps := (ps.zip (encs x)).foldl (fun t (p, v) => t.setIfInBounds p v) a.tmps, defers := [] } W)
    (hbody : ∀ (l : Nat) (pre : List α) (x : α) (a' : Act) (W : World), w.heap.size ≤ l → (∃ r, W.heap[l]? = some (.loop r)) → I pre W → Ax x a' W → pre.length < N → body.wpIn (F.inRound l) (n - 1 - 1) P (ownPostG w.heap.size Kp I Ix (pre ++ [x]) W) a' W)
    (hdone : ∀ (D : Nat) (xs : List α) (W : World), w.heap.size ≤ D → S xs → I xs W → W.heap[D]? = some (.deferred (some [])) → Q .normal { a with defers := { target := .collected D, args := #[] } :: a.defers } W)
    (hstop : ∀ (D : Nat) (c : Code) (pre : List α) (W : World), w.heap.size ≤ D → Sp pre → Ix c pre W → W.heap[D]? = some (.deferred (some [])) → c.wpIn F n P Q { a with defers := { target := .collected D, args := #[] } :: a.defers } W) :
    (Code.rangeFunc g ps assign body).wpIn F n P Q a w := by
  refine wpIn_rangeFunc fun fn hfn => ?_
  rw [hro]
  obtain ⟨W1, hW1⟩ : ∃ W1, W1 = (w.alloc (.deferred (some []))).alloc (.loop (recO fn a.tmps ps assign body w.heap.size .ready none)) := ⟨_, rfl⟩
  have hsz : W1.heap.size = w.heap.size + 2 := by rw [hW1]; simp
  have hB1 : Books W1 (w.heap.size + 1) w.heap.size (recO fn a.tmps ps assign body w.heap.size .ready none) := by
    rw [hW1]
    have h9 := World.alloc_heap_new (w.alloc (.deferred (some []))) (.loop (recO fn a.tmps ps assign body w.heap.size .ready none))
    rw [World.size_alloc] at h9
    exact ⟨h9, (Below.heap_alloc _ _ _ (by simp)).trans (World.alloc_heap_new w _)⟩
  have hI1 : I [] W1 := by rw [hW1]; exact hI.alloc _ (hI.alloc _ h0)
  have hb1 : Below w0.heap.size w0 W1 := by
    rw [hW1]; exact hb0.trans ((((Below.refl _ w).alloc (Nat.le_refl _) _).alloc (by simp) _).mono hb0.size)
  refine ⟨w.heap.size + 1, [{ target := .collected w.heap.size, args := #[] }], W1, { target := .fn (.func gf) lb, args := #[.func (.yield (w.heap.size + 1)) #[] #[]] }, W1, gf,
    #[.func (.yield (w.heap.size + 1)) #[] #[]] ++ lb, W1, by rw [hW1]; exact run_enterLoop_outer _ _ _ _ _, by simp only [resolve, hg]; simp [go_sem], fun f' hf' => by simp [Target.leads] at hf'; subst hf'; exact hFg, by simp [invoke, go_sem, eg], fun _ => h1, ?_⟩
  have hnw : ∀ {A : World} {row : Option Nat}, (∀ r, row = some r → W1.heap.size ≤ r ∧ ∃ o : Obj, A.heap[r]? = some o ∧ o.isWalk = true) → (∀ r, row = some r → w.heap.size ≤ r ∧ ∃ o : Obj, A.heap[r]? = some o ∧ o.isCells = false) :=
    fun hr r e => by obtain ⟨hB, o, ho, hw⟩ := hr r e; exact ⟨by omega, o, ho, Obj.not_cells_of_walk hw⟩
  refine (hseq (w.heap.size + 1)
    (fun pre W => I pre W ∧ Books W (w.heap.size + 1) w.heap.size (recO fn a.tmps ps assign body w.heap.size .ready none))
    (fun pre W => ∃ c, Ix c pre W ∧ Books W (w.heap.size + 1) w.heap.size (recO fn a.tmps ps assign body w.heap.size .done (some c)))
    W1 hb1 (fun s A B row hs hg' hr => ⟨hI s A B row hs.1 hg' (hnw hr), hs.2.grown hg' (fun r e => (hr r e).2)⟩)
    (fun s A B row hs hg' hr => by obtain ⟨c, hc, hbk⟩ := hs; exact ⟨c, hIx c s A B row hc hg' (hnw hr), hbk.grown hg' (fun r e => (hr r e).2)⟩)
    (fun pre x W hj hR hlen => round_offered hfn (Nat.le_succ _) (Nat.le_refl _) (by omega) hKt hKb hI hIx hAx (hps x) hj.2 (fun K hK => hassign _ pre x W K hj.1 hR hK) (fun a' W' hl hi hax => hbody _ pre x a' W' (Nat.le_succ _) hl hi hax hlen))
    ⟨hI1, hB1⟩).mono ?_
  rintro e W2 ⟨⟨v, rfl⟩, (⟨xs, hS, hi, hb⟩ | ⟨pre, hSp, c, hi, hb⟩)⟩
  · exact ⟨none, _, run_endLoop (P := P) hb.loop (by simp [recO]), hdone _ xs _ (Nat.le_refl _) hS (hI.putObj _ hi (Nat.le_succ _) hb.loop rfl) ((World.putObj_heap_other (by omega)).trans hb.defs)⟩
  · exact ⟨some c, _, run_endLoop (P := P) hb.loop (by simp [recO]), hstop _ c pre _ (Nat.le_refl _) hSp ((hIx c).putObj _ hi (Nat.le_succ _) hb.loop rfl) ((World.putObj_heap_other (by omega)).trans hb.defs)⟩

/-- The append law (text Mem's run_append_row), inside a fence. -/
theorem wpListIn_append_row {F : Fence} {m₀ : Nat} {P : Program} (w : World) {ops : Array Oper} {rest : List Oper} {o : Oper} {a : Act} {Q : Exit → Act → World → Prop} (hgd : o.guard = none) (s x : Operand) (t : TypeId)
    (ho : o.op = .call { callee := .builtin .append, args := #[s, x], argTypes := #[t, t] })
    (base : Nat) (e : TypeId) (i : TypeInfo) (z : Value) (size bytes : Nat) (ht : P.underlying t = some (.slice e)) (hi : P.info? e = some i) (hz : i.zero = some z)
    (hsize : i.size = size) (hby : i.bytes = bytes) (hzs : z.cells.size = size) (hsz : 0 < size)
    (v : Value) (n : Nat) (xs : List Value) (hs : a.eval s = v) (hown : Own w base size v n xs)
    (A : Option Addr) (m c : Nat) (news : List Value) (hx : a.eval x = .slice A m c) (hl : news.length = m * size) (hr : Row w A news) (h1 : ∀ u ∈ news, u.oneCell' = true)
    (h63 : n + m ≤ maxLen) (hbytes : (n + m) * bytes ≤ 140737488355328) (hbase : base ≤ w.heap.size)
    (h : ∀ v' w', Own w' base size v' (n + m) (xs ++ news) → w.grownBy w' v.ownBlock → (v'.ownBlock = v.ownBlock ∨ ∀ k, v'.ownBlock = some k → w.heap.size ≤ k) → wpListIn F m₀ P ops Q rest (a.put o.dst v') w') : wpListIn F m₀ P ops Q (o :: rest) a w := by
  refine wpListIn_plain hgd fun K hK => ?_
  obtain ⟨v', w', hrun, h2, h3, h4⟩ := run_append_row (P := P) w base t o.type e i z size bytes ht hi hz hsize hby hzs hsz v n xs hown A m c news hl hr h1 h63 hbytes hbase
  unfold Oper.wpIn
  refine ⟨?_, ?_⟩
  · simp [Oper.about, ho, resolve, Target.leads, Sem.run_pure]
  · rw [Oper.semAt_plain F _ _ (by rw [ho]; intro c hc'; cases hc')]
    simp [execOp, ho, resolve, invoke, builtin, hs, hx, hrun, Result.andThen]
    exact hK _ _ (h v' w' h2 h3 h4)
end Go.Proofs.YtneakieigiafpaaGreatDoor
