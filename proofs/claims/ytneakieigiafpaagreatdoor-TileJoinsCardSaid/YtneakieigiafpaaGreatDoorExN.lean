/- Code and calls: what the runner says of a piece of code, of a function's body, of its deferred calls, of a call. -/
import Derived.Test.YtneakieigiafpaaGreatDoorExS
import Derived.RangeFuncLeaves
namespace Go.Ex
open Go Go.RowKit

def X.toE : X → Exit
  | .normal => .normal
  | .exit id => .exit id
  | .goto l => .goto l
  | .ret => .ret
def TaskWp (P : Program) (t : Task) (Q : Exit → Act → World → Prop) (a : Act) (w : World) : Prop := match t with
  | .code c => c.wp P Q a w
  | .looping c => LoopWp P c Q a w
  | .inScope c cur => ScopeWp P c cur Q a w
/-- What the runner says of code. -/
def SelfOK (P : Program) (self : Self) : Prop := ∀ cx t s x s', self cx t s = some (x, s') → ∀ lo ρ a w, Ok cx.N ρ s a w → ColOK lo ρ w (colsOf s.defs) → lo ≤ w.heap.size → cx.base ≤ s.n → ∀ Q : Exit → Act → World → Prop,
  (∀ ρ' a' w', Ok cx.N ρ' s' a' w' → ColOK lo ρ' w' (colsOf s'.defs) → Mv cx.base ρ s w ρ' s' w' → Q x.toE a' w') → TaskWp P t Q a w
/-- What it says of a round's code. -/
noncomputable def calmT : Task → Bool
  | .code c => calm c
  | .looping c => calm c
  | .inScope _ _ => false
def TaskWpR (l n : Nat) (P : Program) (t : Task) (Q : Exit → Act → World → Prop) (a : Act) (w : World) : Prop := match t with
  | .code c => c.wpIn (Fence.wide.inRound l) n P Q a w
  | .looping c => LoopWpR l n P c Q a w
  | .inScope _ _ => True
def SelfOKr (P : Program) (self : Self) : Prop := ∀ l n cx t s x s', self cx t s = some (x, s') → calmT t = true → ∀ ρ a w, Ok cx.N ρ s a w → cx.base ≤ s.n → ∀ Q : Exit → Act → World → Prop,
  (∀ ρ' a' w', Ok cx.N ρ' s' a' w' → Mv cx.base ρ s w ρ' s' w' → Q x.toE a' w') → TaskWpR l n P t Q a w
/-- What is told of functions without a look at their code. -/
def OraOK (P : Program) (ora : Nat → List SV → List Hp → Option SV) : Prop := ∀ f args heap v, ora f args heap = some v → (∀ n, Sc n v) ∧ ∀ ρ n w, HpOK ρ n heap w → (∀ x ∈ args, Sc n x) → SemVal P ((callFunc f (args.map (SV.conc ρ)).toArray).run P w) fun u w' => u = v.conc ρ ∧ Below w.heap.size w w'

section
variable {P : Program} {self : Self} {ora : Nat → List SV → List Hp → Option SV} {cx : Cx} {s s' : St} {ρ : Va} {a : Act} {w : World} {tmps : Array Value}

/-! ### A function's results -/
def resM (tmps : Array Value) (r : ResultVar) : Sem Value := match r with
  | .tmp t => pure (tmps.getD t undef)
  | .cell a t => do loadVar t (← asAddr (tmps.getD a undef))
structure SlotOK (ρ : Va) (s : St) (tmps : Array Value) : Prop where
  env : ∀ k x, s.env.get k = some x → tmps[k]? = some (x.conc ρ)
  sc : ∀ k x, s.env.get k = some x → Sc s.n x
theorem res_ok (he : SlotOK ρ s tmps) (hh : HpOK ρ s.n s.heap w) {r : ResultVar} {v : SV} (h : resV P s r = some v) : (resM tmps r).run P w = .ok (v.conc ρ) w ∧ Sc s.n v := by
  cases r with
  | tmp t =>
    have h1 := he.env t v h
    exact ⟨by simp [resM, h1], he.sc t v h⟩
  | cell p t =>
    obtain ⟨q, hq, h⟩ := bindO_eq.1 (show bindO (s.env.get p) (fun p => loadS P s.heap t p) = some v from h)
    obtain ⟨b, off, rfl, h⟩ := ptrOf_eq h
    obtain ⟨bl, hb, h⟩ := bindO_eq.1 h
    have h1 := he.env p _ hq
    rw [conc_ptr] at h1
    refine ⟨?_, partS_sc (hh.sc b bl hb) h⟩
    have := loadVar_ok (P := P) (hh.bk b bl hb) h
    simp [resM, h1, asAddr, this]
theorem resAll_ok (he : SlotOK ρ s tmps) (hh : HpOK ρ s.n s.heap w) : ∀ {l : List ResultVar} {vs : List SV}, mapO (resV P s) l = some vs → (l.mapM (resM tmps)).run P w = .ok (vs.map (SV.conc ρ)) w ∧ ∀ v ∈ vs, Sc s.n v
  | [], vs, h => by cases h; exact ⟨rfl, fun v hv => (by cases hv)⟩
  | r :: l, vs, h => by
    obtain ⟨y, hy, h⟩ := bindO_eq.1 (show bindO (resV P s r) (fun y => bindO (mapO (resV P s) l) fun ys => some (y :: ys)) = some vs from h)
    obtain ⟨ys, hys, h⟩ := bindO_eq.1 h
    cases h
    obtain ⟨h1, h2⟩ := res_ok he hh hy
    obtain ⟨h3, h4⟩ := resAll_ok he hh hys
    refine ⟨?_, fun v hv => ?_⟩
    · rw [List.mapM_cons]
      simp [h1, h3]
    · rcases List.mem_cons.1 hv with rfl | hv
      · exact h2
      · exact h4 v hv
theorem results_ok (he : SlotOK ρ s tmps) (hh : HpOK ρ s.n s.heap w) {fn : Func} {vs : List SV} (h : mapO (resV P s) fn.results.toList = some vs) : (results fn tmps).run P w = .ok ((oneS vs).conc ρ) w ∧ Sc s.n (oneS vs) := by
  obtain ⟨h1, h2⟩ := resAll_ok he hh h
  have e : results fn tmps = (do let vs ← fn.results.mapM (resM tmps); pure (if h : vs.size = 1 then vs[0] else .tuple vs)) := by
    unfold results
    congr 1
  constructor
  · rw [e, Array.mapM_eq_mapM_toList]
    simp only [Sem.run_bind, Sem.run_map, h1, Result.andThen_ok]
    rcases vs with _ | ⟨x, _ | ⟨y, l⟩⟩ <;> simp [oneS, conc_tup]
  · unfold oneS
    split
    · exact h2 _ (by simp)
    · exact Sc.tup h2

/-! ### A body -/
theorem fnOf_eq {f : Nat} {fi : FnI} (h : fnOf P f = some fi) : ∃ fn, P.funcs[f]? = some fn ∧ fn.body = some fi.body ∧ fn.ntmps = fi.ntmps ∧ fn.results.toList = fi.results ∧ (fn.name == "runtime.NumGoroutine") = false := by
  obtain ⟨fn, h1, h⟩ := bindO_eq.1 h
  obtain ⟨c, h2, h⟩ := bindO_eq.1 h
  obtain ⟨h3, h⟩ := guardO_eq.1 h
  cases h
  exact ⟨fn, h1, h2, rfl, rfl, by simpa using h3⟩
theorem call_run {f : Nat} {fn : Func} {c : Code} (hf : P.funcs[f]? = some fn) (hb : fn.body = some c) (hn : (fn.name == "runtime.NumGoroutine") = false) (args : Array Value) (w : World) : (callFunc f args).run P w = .ok (.enter f args) w := by
  unfold callFunc
  have : (program : Sem Program).run P w = .ok P w := rfl
  rw [Sem.run_bind, this, Result.andThen_ok, hf]
  simp only [hn, hb]
  rfl
def first (s : St) : St := ⟨.nil, s.heap, s.n, [], []⟩
theorem T.nil_get (k : Nat) : T.get .nil k = none := T.getP_nil _
theorem fn_ok (hs : SelfOK P self) {f : Nat} {args : List SV} {fi : FnI} {s2 : St} (h : exFn P self f args s = some (fi, s2)) : ∃ fn c, P.funcs[f]? = some fn ∧ fn.body = some c ∧ (fn.name == "runtime.NumGoroutine") = false ∧ fn.results.toList = fi.results ∧
    ∀ ρ w, HpOK ρ s.n s.heap w → (∀ x ∈ args, Sc s.n x) → ∀ Q : Exit → Act → World → Prop, (∀ e ρ' a' w', (e = .normal ∨ e = .ret) → EnvOK ρ' s2 a' → HpOK ρ' s2.n s2.heap w' → ColOK w.heap.size ρ' w' (colsOf s2.defs) → Mv s.n ρ (first s) w ρ' s2 w' → Q e a' w') →
      c.wp P Q { tmps := (args.map (SV.conc ρ)).toArray ++ Array.replicate (fn.ntmps - (args.map (SV.conc ρ)).toArray.size) undef, defers := [] } w := by
  obtain ⟨fi', hfi, h⟩ := bindO_eq.1 h
  obtain ⟨⟨x, s3⟩, hx, h⟩ := bindO_eq.1 h
  obtain ⟨fn, h1, h2, h3, h4, h5⟩ := fnOf_eq hfi
  have h6 : fi' = fi ∧ s3 = s2 ∧ (x.toE = .normal ∨ x.toE = .ret) := by
    cases x <;> cases h
    · exact ⟨rfl, rfl, .inl rfl⟩
    · exact ⟨rfl, rfl, .inr rfl⟩
  obtain ⟨rfl, rfl, hex⟩ := h6
  refine ⟨fn, fi'.body, h1, h2, h5, h4, fun ρ w hh ha Q hq => ?_⟩
  have hget : ∀ {k x}, (T.ofList args 0 .nil).get k = some x → args[k]? = some x := fun {k x} hk => by
    rcases T.ofList_get args 0 .nil k x hk with ⟨i, e1, e2⟩ | e
    · rw [e2, Nat.zero_add]; exact e1
    · rw [T.nil_get] at e; cases e
  have hok : Ok fi'.ntmps ρ ⟨T.ofList args 0 .nil, s.heap, s.n, [], []⟩ { tmps := (args.map (SV.conc ρ)).toArray ++ Array.replicate (fn.ntmps - (args.map (SV.conc ρ)).toArray.size) undef, defers := [] } w := by
    refine ⟨⟨fun k x hk => ?_, fun k x hk => ha x (List.mem_of_getElem? (hget hk)), trivial⟩, hh, ?_⟩
    · have h7 := hget hk
      have hlt := (List.getElem?_eq_some_iff.1 h7).1
      rw [Array.getElem?_append_left (by simpa using hlt)]
      simp [h7]
    · rw [← h3]; simp; omega
  exact hs _ _ _ _ _ hx w.heap.size ρ _ w hok trivial (Nat.le_refl _) (Nat.le_refl _) Q fun ρ' a' w' ok' col' mv => hq x.toE ρ' a' w' hex ok'.env ok'.hp col' mv

/-! ### Deferred calls -/
theorem defer_run {base : Nat} (hs : SelfOK P self) {d : Nat × List SV} {s1 : St} (h : runDef P self d s = some s1) {tmps : Array Value} (he : SlotOK ρ s tmps) (hh : HpOK ρ s.n s.heap w) (hb : base ≤ s.n) {dd : Deferred} {caps : Array Value} (ht : dd.target = .fn (.func d.1) caps) (hargs : dd.args ++ caps = (d.2.map (SV.conc ρ)).toArray) (hsc : ∀ x ∈ d.2, Sc s.n x)
    {fn : Func} {R : Ending → World → Prop} {ds : List Deferred} (hk : ∀ ρ' w', SlotOK ρ' s1 tmps → HpOK ρ' s1.n s1.heap w' → Mv base ρ s w ρ' s1 w' → LeavesInM Fence.wide 5 P fn tmps R ds .returning w') : LeavesInM Fence.wide 5 P fn tmps R (dd :: ds) .returning w := by
  obtain ⟨⟨fi, s2⟩, hfn, h⟩ := bindO_eq.1 h
  obtain ⟨h1, h⟩ := guardO_eq.1 h
  obtain ⟨vs, hvs, h⟩ := bindO_eq.1 h
  cases h
  obtain ⟨fn', c, g1, g2, g3, g4, g5⟩ := fn_ok hs hfn
  refine ⟨by simp, .inr ⟨fun h => by simp [Fence.wide] at h, .func d.1, caps, d.1, (d.2.map (SV.conc ρ)).toArray, ht, ?_, fun _ _ => trivial, ?_⟩⟩
  · rw [ht]
    show (callFunc d.1 (dd.args ++ caps)).run P w = _
    rw [hargs]
    exact call_run g1 g2 g3 _ w
  · refine CallsDIn.mono (callsDIn_of_wp (R := fun e w' => ∃ v, e = .returned v ∧ ∃ ρ', HpOK ρ' s2.n s2.heap w' ∧ Mv s.n ρ (first s) w ρ' s2 w') g1 g2 trivial (wpIn_wide.2 (g5 ρ w hh hsc _ fun e ρ' a' w' hex hen hhp _ mv => ?_))) fun e u' w' hr => ?_
    · have hdef : a'.defers = [] := by
        have := hen.defs
        cases hd : s2.defs with
        | nil =>
          rw [hd] at this
          cases hd2 : a'.defers with
          | nil => rfl
          | cons x y => rw [hd2] at this; exact this.elim
        | cons x y => replace h1 : List.isEmpty s2.defs = true := h1; rw [hd] at h1; cases h1
      have hres := results_ok (fn := fn') (tmps := a'.tmps) ⟨hen.env, hen.sc⟩ hhp (P := P) (vs := vs) (by rw [g4]; exact hvs)
      have hpost : a'.defers = [] ∧ ∃ v, (results fn' a'.tmps).run P w' = .ok v w' ∧ (∃ v', Ending.returned v = .returned v' ∧ ∃ ρ', HpOK ρ' s2.n s2.heap w' ∧ Mv s.n ρ (first s) w ρ' s2 w') := ⟨hdef, _, hres.1, _, rfl, ρ', hhp, mv⟩
      rcases hex with rfl | rfl
      · exact hpost
      · exact hpost
    · obtain ⟨rfl, v, rfl, ρ', hhp, L, x, hlog⟩ := hr
      refine hk ρ' w' ⟨fun k y hy => ?_, fun k y hy => (he.sc k y hy).mono x.le⟩ hhp ⟨L, x, fun b hbb => ?_⟩
      · rw [he.sc k y hy ρ ρ' x.ag]; exact he.env k y hy
      · have := hlog b (by omega)
        show b ∈ s.log ++ s2.log ↔ _
        rw [List.mem_append, this]
        constructor
        · rintro (h | h | h)
          · exact .inr h
          · exact .inl h
          · cases h
        · rintro (h | h)
          · exact .inr (.inl h)
          · exact .inl h
theorem Mv.size {base : Nat} {ρ' : Va} {w' : World} (h : Mv base ρ s w ρ' s' w') : w.heap.size ≤ w'.heap.size := let ⟨_, e, _⟩ := h; e.size
theorem ColOK.put {lo : Nat} {b : Nat} {o : Obj} : ∀ {l : List (Nat × List SV)}, (∀ d' ∈ l, ∀ b', d'.2 = [.ptr b' 0] → ρ.blk b' ≠ ρ.blk b) → ColOK lo ρ w l → ColOK lo ρ (w.putObj (ρ.blk b) o) l
  | [], _, _ => trivial
  | d :: l, hn, ⟨⟨b1, h1, h2, h3, h4⟩, h⟩ => ⟨⟨b1, h1, h2, (World.putObj_heap_other (hn d (by simp) b1 h1)).trans h3, h4⟩, ColOK.put (fun d' hd' => hn d' (List.mem_cons_of_mem _ hd')) h⟩
theorem ColOK.grown {lo : Nat} {w' : World} (hb : Below w.heap.size w w') : ∀ {l : List (Nat × List SV)}, ColOK lo ρ w l → ColOK lo ρ w' l
  | [], _ => trivial
  | _ :: _, ⟨⟨b1, h1, h2, h3, h4⟩, h⟩ => ⟨⟨b1, h1, h2, (hb.block _ (Array.getElem?_eq_some_iff.1 h3).1).trans h3, h4⟩, ColOK.grown hb h⟩
theorem defers_ok {base : Nat} (hs : SelfOK P self) {I : Its} (hi : ItsOK P I) {tmps : Array Value} {fn : Func} {R : Ending → World → Prop} {s0 : St} {ρ0 : Va} {w0 : World} (hb0 : base ≤ s0.n) : ∀ {l : List (Nat × List SV)} {ds : List Deferred} {s s2 : St} {ρ : Va} {w : World}, exDefs P I self l s = some s2 → SlotOK ρ s tmps → HpOK ρ s.n s.heap w → Mv base ρ0 s0 w0 ρ s w → DefOK ρ s.n l ds → ColOK w0.heap.size ρ w (colsOf l) →
    (∀ ρ' w', SlotOK ρ' s2 tmps → HpOK ρ' s2.n s2.heap w' → Mv base ρ0 s0 w0 ρ' s2 w' → ∃ v, (results fn tmps).run P w' = .ok v w' ∧ R (.returned v) w') → LeavesInM Fence.wide 5 P fn tmps R ds .returning w
  | [], [], s, s2, ρ, w, h, he, hh, mv, _, _, hk => by
    cases h
    exact hk ρ w he hh mv
  | [], _ :: _, _, _, _, _, _, _, _, _, hd, _, _ => hd.elim
  | _ :: _, [], _, _, _, _, _, _, _, _, hd, _, _ => hd.elim
  | (f, as) :: l, dd :: ds, s, s2, ρ, w, h, he, hh, mv, ⟨hdd, hd⟩, hcol, hk => by
    obtain ⟨s1, hs1, h⟩ := bindO_eq.1 (show bindO (ifB (Nat.beq f colTag) (some s) (ifB (I.qt f as) (some s) (runDef P self (f, as) s))) (exDefs P I self l) = some s2 from h)
    have hb := Nat.le_trans hb0 mv.le
    rcases hdd with ⟨hf, caps, h1, h2, h3⟩ | ⟨hf, b, h1, h2, h3⟩
    · have hne : Nat.beq f colTag = false := by
        cases hq : Nat.beq f colTag with
        | false => rfl
        | true => exact absurd (Nat.eq_of_beq_eq_true hq) hf
      rw [hne, ifB_false] at hs1
      rw [colsOf_cons hf] at hcol
      cases hqt : I.qt f as with
      | true =>
        rw [hqt, ifB_true] at hs1
        cases hs1
        obtain ⟨q1, q2⟩ := hi.qt f as hqt ρ w
        refine ⟨by simp, .inr ⟨fun h => by simp [Fence.wide] at h, .func f, caps, f, (as.map (SV.conc ρ)).toArray, h1, ?_, fun _ _ => trivial, q2.mono fun e u' w' hr => ?_⟩⟩
        · rw [h1]
          show (callFunc f (dd.args ++ caps)).run P w = _
          rw [h2]
          exact q1
        · obtain ⟨⟨v, rfl⟩, rfl, hbel⟩ := hr
          have hg : w.grownBy w' none := ⟨hbel.os, hbel.tape, hbel.output, hbel.size, fun k hk _ => hbel.block k hk⟩
          exact defers_ok (l := l) hs hi hb0 h he (hh.grown hg fun r e => by cases e) (mv.grown hg fun r e => by cases e) hd (ColOK.grown hbel hcol) hk
      | false =>
      rw [hqt, ifB_false] at hs1
      refine defer_run (d := (f, as)) hs hs1 he hh hb h1 h2 h3 fun ρ' w' he' hh' mv1 => ?_
      have mv2 := Mv.trans hb0 mv mv1
      obtain ⟨L, x, hlog⟩ := mv1
      exact defers_ok hs hi hb0 h he' hh' mv2 (hd.move x.le x.ag) (ColOK.move x hh (fun d hm => hd.col d (colsOf_mem hm).1 (colsOf_mem hm).2) hcol) hk
    · subst hf
      rw [Nat.beq_refl, ifB_true] at hs1
      cases hs1
      subst h1 h3
      have e : colsOf ((colTag, [.ptr b 0]) :: l) = (colTag, [.ptr b 0]) :: colsOf l := by simp [colsOf]
      rw [e] at hcol
      obtain ⟨⟨b1, e1, hlo, hbl, hno⟩, hcol⟩ := hcol
      obtain rfl : b = b1 := by injection e1 with e1; injection e1
      have hg := grownBy_putObj' w (ρ.blk b) (.deferred none)
      refine ⟨by simp, .inl ⟨ρ.blk b, _, rfl, run_takeDeferred hbl, ?_⟩⟩
      exact defers_ok (l := l) hs hi hb0 h he (hh.grown hg fun r e => by cases e; exact ⟨_, hbl, rfl⟩) (mv.grown hg fun r e => by cases e; exact hlo) hd (ColOK.put hno hcol) hk

/-! ### A call -/
theorem enter_ok (hs : SelfOK P self) {I : Its} (hi : ItsOK P I) {f : Nat} {args : List SV} {v : SV} (h : enter P I self cx f args s = some (v, s')) (hh : HpOK ρ s.n s.heap w) (ha : ∀ x ∈ args, Sc s.n x) (_ : cx.base ≤ s.n) :
    SemVal P ((callFunc f (args.map (SV.conc ρ)).toArray).run P w) fun u w' => ∃ ρ', u = v.conc ρ' ∧ Eff cx s v s' ρ w ρ' w' := by
  obtain ⟨⟨fn0, s1⟩, hfn, h⟩ := bindO_eq.1 h
  obtain ⟨s2, hs2, h⟩ := bindO_eq.1 h
  obtain ⟨vs, hvs, h⟩ := bindO_eq.1 h
  obtain ⟨fn, c, g1, g2, g3, g4, g5⟩ := fn_ok hs hfn
  rw [call_run g1 g2 g3]
  show Calls P f _ w _
  refine callsIn_wide.1 (callsIn_of_wp_marks (n := 5) g1 g2 trivial (wpIn_wide.2 (g5 ρ w hh ha _ fun e ρ1 a1 w1 hex hen hhp hcol mv => ?_)) rfl)
  have hle1 := mv.le
  have hpost : LeavesInM Fence.wide 5 P fn a1.tmps (fun e w'' => ∃ u, e = .returned u ∧ ∃ ρ', u = v.conc ρ' ∧ Eff cx s v s' ρ w ρ' w'') a1.defers .returning w1 := by
    refine defers_ok (base := s.n) (s0 := first s) hs hi (Nat.le_refl _) hs2 ⟨hen.env, hen.sc⟩ hhp mv hen.defs hcol fun ρ2 w2 he2 hh2 mv2 => ?_
    obtain ⟨r1, r2⟩ := results_ok (fn := fn) (P := P) he2 hh2 (vs := vs) (by rw [g4]; exact hvs)
    obtain ⟨L, x, hlog⟩ := mv2
    unfold leave at h
    cases h
    refine ⟨_, r1, _, rfl, ρ2, rfl, ⟨olds s.n s2.log, ?_, ?_⟩, ?_, rfl, r2, rfl⟩
    · have hw : Ext (olds s.n s2.log) ρ s.n s.heap w ρ2 s2.n s2.heap w2 := by
        have hmem : ∀ b, b < s.n → (b ∈ olds s.n s2.log ↔ b ∈ L) := fun b hbb => by
          rw [olds_mem, hlog b hbb]
          constructor
          · rintro ⟨h | h, -⟩
            · exact h
            · cases h
          · exact fun h => ⟨.inl h, hbb⟩
        refine ⟨x.le, x.size, x.agr, x.nrev, fun r hr hno => x.frame r hr fun b hbl hbn => hno b ((hmem b hbn).2 hbl) hbn, fun b hbl hbn => x.vis b ((hmem b hbn).1 hbl) hbn, fun b hbn y hy => ?_, x.side⟩
        rcases x.new b hbn y hy with h | ⟨b', h1, h2, h3⟩
        · exact .inl h
        · exact .inr ⟨b', (hmem b' h2).2 h1, h2, h3⟩
      refine hw.sub fun b y hy => ?_
      dsimp only at hy
      cases hc : ifB (oneS vs).isFlat (List.isEmpty (olds s.n s2.log)) false with
      | true => rw [hc, ifB_true] at hy; exact (hdrop_get hh2.srt hy).1
      | false => rw [hc, ifB_false] at hy; exact hy
    · rfl
    · dsimp only
      cases hc : ifB (oneS vs).isFlat (List.isEmpty (olds s.n s2.log)) false with
      | true => rw [ifB_true]; exact hh2.sub (hdrop_srt hh2.srt) fun b y hy => (hdrop_get hh2.srt hy).1
      | false => rw [ifB_false]; exact hh2
  rcases hex with rfl | rfl
  · exact hpost
  · exact hpost
theorem exCall_ok (hs : SelfOK P self) {I : Its} (hi : ItsOK P I) (ho : OraOK P ora) : CallerOK P (exCall P ora I self) := by
  intro cx f args s v s' h ρ w hh ha hb
  unfold exCall at h
  cases hor : ora f args s.heap with
  | none => rw [hor] at h; exact enter_ok hs hi h hh ha hb
  | some u =>
    rw [hor] at h
    cases h
    obtain ⟨h1, h2⟩ := ho f args _ _ hor
    refine (h2 ρ _ w hh ha).mono fun y w' ⟨hy, hw⟩ => ⟨ρ, hy, ⟨[], ?_, rfl⟩, ⟨hh.srt, hh.sc, fun b bl hb => (hh.bk b bl hb).keep rfl rfl (fun _ _ => rfl) (hw.block _ (hh.bk b bl hb).lt), hh.inj, hh.glob, hh.big⟩, rfl, h1 _, rfl⟩
    have := Ext.refl ρ s.n s.heap w hh.srt
    exact ⟨this.le, hw.size, this.agr, this.nrev, fun r hr _ => hw.block r hr, this.vis, fun b hb y hy => absurd (hh.srt.lt hy) (by omega), ⟨hw.os, hw.tape, hw.output⟩⟩

/-! ### Code -/
theorem then_eq {r : Option (X × St)} {K : St → Option (X × St)} {x : X} {s' : St} (h : andThen r K = some (x, s')) : (∃ s1, r = some (.normal, s1) ∧ K s1 = some (x, s')) ∨ (r = some (x, s') ∧ ∀ Q : Act → World → Prop, ∀ Q', Exit.then Q Q' x.toE = Q' x.toE) := by
  obtain ⟨⟨y, s1⟩, hr, h⟩ := bindO_eq.1 h
  cases y with
  | normal => exact .inl ⟨s1, hr, h⟩
  | exit id => cases h; exact .inr ⟨hr, fun _ _ => rfl⟩
  | goto l => cases h; exact .inr ⟨hr, fun _ _ => rfl⟩
  | ret => cases h; exact .inr ⟨hr, fun _ _ => rfl⟩
theorem codeR_ok {l n : Nat} {I : Its} (hs : SelfOK P self) (hr : SelfOKr P self) (hi : ItsOK P I) (ho : OraOK P ora) (hm : P.follows .mixedOrders = true) {c : Code} {x : X} (h : exCode P ora I self cx c s = some (x, s')) (hcalm : calm c = true) (hok : Ok cx.N ρ s a w) (hb : cx.base ≤ s.n) {Q : Exit → Act → World → Prop}
    (hq : ∀ ρ' a' w', Ok cx.N ρ' s' a' w' → Mv cx.base ρ s w ρ' s' w' → Q x.toE a' w') : c.wpIn (Fence.wide.inRound l) n P Q a w := by
  unfold exCode at h
  split at h
  · cases h; exact wpIn_skip (hq ρ a w hok (Mv.refl hok.hp.srt))
  · cases hcalm
  · obtain ⟨s1, h1, h⟩ := bindO_eq.1 h
    cases h
    exact wpIn_mono (wpIn_region_list (listIn_of OnlyN.out (noDefers_mem hcalm) (exOps_ok (exCall_ok hs hi ho) h1 hok hb fun ρ' a' w' ok' _ mv' => hq ρ' a' w' ok' mv'))) OnlyN.imp
  · obtain ⟨s1, h1, h⟩ := bindO_eq.1 h
    cases h
    exact wpIn_mono (wpIn_region_any hm (anyIn_of (noDefers_mem hcalm) OnlyN.out _ _ _ _ (exDraw_any (exCall_ok hs hi ho) h1 hok fun ρ' a' w' ok' _ mv' => hq ρ' a' w' ok' mv'))) OnlyN.imp
  · rename_i c1 c2
    obtain ⟨k1, k2⟩ := ifB_and (show ifB (calm c1) (calm c2) false = true from hcalm)
    rcases then_eq h with ⟨s1, h1, h2⟩ | ⟨h1, h2⟩
    · exact wpIn_seq (hr l n _ _ _ _ _ h1 k1 ρ a w hok hb _ fun ρ1 a1 w1 ok1 mv1 => hr l n _ _ _ _ _ h2 k2 ρ1 a1 w1 ok1 (Nat.le_trans hb mv1.le) Q fun ρ2 a2 w2 ok2 mv2 => hq ρ2 a2 w2 ok2 (Mv.trans hb mv1 mv2))
    · exact wpIn_seq (hr l n _ _ _ _ _ h1 k1 ρ a w hok hb _ fun ρ1 a1 w1 ok1 mv1 => by rw [h2]; exact hq ρ1 a1 w1 ok1 mv1)
  · rename_i p c1 c2
    obtain ⟨k1, k2⟩ := ifB_and (show ifB (calm c1) (calm c2) false = true from hcalm)
    obtain ⟨v, hv, h⟩ := bindO_eq.1 h
    obtain ⟨c', hc', h⟩ := bindO_eq.1 h
    have e := (opv_ok hok.env hok.hp hv).1
    unfold condC at hc'
    split at hc'
    · rename_i t
      rw [conc_v] at e
      refine wpIn_cond e ?_
      cases t
      · cases hc'; exact hr l n _ _ _ _ _ h k2 ρ a w hok hb Q hq
      · cases hc'; exact hr l n _ _ _ _ _ h k1 ρ a w hok hb Q hq
    · cases hc'
  · rename_i id c1
    obtain ⟨⟨y, s1⟩, h1, h⟩ := bindO_eq.1 h
    refine wpIn_block (hr l n _ _ _ _ _ h1 hcalm ρ a w hok hb _ fun ρ1 a1 w1 ok1 mv1 => ?_)
    cases y with
    | exit j =>
      obtain h : some (ifB (Nat.beq j id) X.normal (.exit j), s1) = some (x, s') := h
      show if j = id then Q .normal a1 w1 else Q (.exit j) a1 w1
      rcases beq_dec j id with ⟨e, rfl⟩ | ⟨e, hne⟩
      · rw [e] at h; cases h; rw [if_pos rfl]; exact hq ρ1 a1 w1 ok1 mv1
      · rw [e] at h; cases h; rw [if_neg hne]; exact hq ρ1 a1 w1 ok1 mv1
    | normal => cases h; exact hq ρ1 a1 w1 ok1 mv1
    | goto l => cases h; exact hq ρ1 a1 w1 ok1 mv1
    | ret => cases h; exact hq ρ1 a1 w1 ok1 mv1
  · exact wpR_of_loop (hr l n _ _ _ _ _ h hcalm ρ a w hok hb Q hq)
  · cases h; exact wpIn_exit (hq ρ a w hok (Mv.refl hok.hp.srt))
  · cases hcalm
  · cases hcalm
  · cases h; exact wpIn_ret (hq ρ a w hok (Mv.refl hok.hp.srt))
  · cases hcalm
  · cases h
theorem bodyR_ok {I : Its} (hs : SelfOK P self) (hr : SelfOKr P self) (hi : ItsOK P I) (ho : OraOK P ora) (hm : P.follows .mixedOrders = true) : SelfOKr P (exBody P ora I self) := by
  intro l n cx t s x s' h hcalm ρ a w hok hb Q hq
  cases t with
  | code c => exact codeR_ok hs hr hi ho hm h hcalm hok hb hq
  | looping c =>
    refine loopR_round ?_
    rcases then_eq (show andThen (self cx (.code c) s) (fun s => self cx (.looping c) s) = some (x, s') from h) with ⟨s1, h1, h2⟩ | ⟨h1, h2⟩
    · exact hr l n _ _ _ _ _ h1 hcalm ρ a w hok hb _ fun ρ1 a1 w1 ok1 mv1 => hr l n _ _ _ _ _ h2 hcalm ρ1 a1 w1 ok1 (Nat.le_trans hb mv1.le) Q fun ρ2 a2 w2 ok2 mv2 => hq ρ2 a2 w2 ok2 (Mv.trans hb mv1 mv2)
    · exact hr l n _ _ _ _ _ h1 hcalm ρ a w hok hb _ fun ρ1 a1 w1 ok1 mv1 => by rw [h2]; exact hq ρ1 a1 w1 ok1 mv1
  | inScope c cur => trivial

/-! ### A range over a function -/
theorem putAll_ok {heap : List Hp} {n : Nat} {log : List Nat} : ∀ {ps : List Tmp} {el : List SV} {env e : T} {tmps : Array Value}, putAll cx.N ps el env = some e → EnvOK ρ ⟨env, heap, n, log, []⟩ { tmps := tmps, defers := [] } → cx.N ≤ tmps.size → (∀ x ∈ el, Sc n x) →
    EnvOK ρ ⟨e, heap, n, log, []⟩ { tmps := (ps.zip (el.map (SV.conc ρ))).foldl (fun t p => t.setIfInBounds p.1 p.2) tmps, defers := [] } ∧ cx.N ≤ ((ps.zip (el.map (SV.conc ρ))).foldl (fun t p => t.setIfInBounds p.1 p.2) tmps).size ∧ el.length = ps.length
  | [], [], env, e, tmps, h, he, hN, _ => by cases h; exact ⟨he, hN, rfl⟩
  | [], _ :: _, _, _, _, h, _, _, _ => by cases h
  | _ :: _, [], _, _, _, h, _, _, _ => by cases h
  | p :: ps, x :: el, env, e, tmps, h, he, hN, hs => by
    obtain ⟨h1, h⟩ := guardO_eq.1 (show guardO (Nat.ble (Nat.succ p) cx.N) ((env.put p x).strict fun env => putAll cx.N ps el env) = some e from h)
    rw [T.strict_eq] at h
    have hput : putSt cx (some p) x ⟨env, heap, n, log, []⟩ = some ⟨env.put p x, heap, n, log, []⟩ := by
      show guardO (Nat.ble (Nat.succ p) cx.N) ((env.put p x).strict fun env => some (⟨env, heap, n, log, []⟩ : St)) = _
      rw [T.strict_eq, h1]; rfl
    obtain ⟨g1, -, -, -, -, g6⟩ := put_ok he (hs x (by simp)) hN hput
    obtain ⟨k1, k2, k3⟩ := putAll_ok (tmps := tmps.setIfInBounds p (x.conc ρ)) h g1 (by simpa using hN) (fun y hy => hs y (List.mem_cons_of_mem _ hy))
    exact ⟨k1, k2, by simp [k3]⟩
theorem only_eq {r : Option (X × St)} {K : St → Option St} {s' : St} (h : only r K = some s') : ∃ s1, r = some (.normal, s1) ∧ K s1 = some s' := by
  obtain ⟨⟨y, s1⟩, hr, h⟩ := bindO_eq.1 h
  cases y with
  | normal => exact ⟨s1, hr, h⟩
  | exit id => cases h
  | goto l => cases h
  | ret => cases h
theorem memN_iff {b : Nat} {l : List Nat} : memN b l = true ↔ b ∈ l := by
  induction l with
  | nil => exact ⟨fun h => (by cases h), fun h => (by cases h)⟩
  | cons x l ih =>
    show ifB (Nat.beq x b) true (memN b l) = true ↔ _
    cases hq : Nat.beq x b with
    | true => rw [ifB_true]; exact ⟨fun _ => by rw [Nat.eq_of_beq_eq_true hq]; simp, fun _ => rfl⟩
    | false =>
      rw [ifB_false, ih]
      constructor
      · exact fun h => List.mem_cons_of_mem _ h
      · intro h
        rcases List.mem_cons.1 h with rfl | h
        · rw [Nat.beq_refl] at hq; cases hq
        · exact h
theorem anyIn_no {l m : List Nat} (h : anyIn l m = false) : ∀ b ∈ l, b ∉ m := by
  induction l with
  | nil => intro b hb; cases hb
  | cons x l ih =>
    replace h : ifB (memN x m) true (anyIn l m) = false := h
    intro b hb hm
    cases hq : memN x m with
    | true => rw [hq, ifB_true] at h; cases h
    | false =>
      rw [hq, ifB_false] at h
      rcases List.mem_cons.1 hb with rfl | hb
      · rw [memN_iff.2 hm] at hq; cases hq
      · exact ih h b hb hm
theorem allSeen_all {l : List Nat} {H : List Hp} (h : allSeen l H = true) : ∀ b ∈ l, ∃ bl, hget H b = some bl := by
  induction l with
  | nil => intro b hb; cases hb
  | cons x l ih =>
    replace h : Option.rec (motive := fun _ => Bool) false (fun _ => allSeen l H) (hget H x) = true := h
    intro b hb
    cases hx : hget H x with
    | none => rw [hx] at h; cases h
    | some bl =>
      rw [hx] at h
      rcases List.mem_cons.1 hb with rfl | hb
      · exact ⟨bl, hx⟩
      · exact ih h b hb
theorem stays_eq {deps : List Nat} {s : St} (h : stays deps s = true) : (∀ b ∈ deps, b ∉ s.log) ∧ (∀ b ∈ deps, ∃ bl, hget s.heap b = some bl) ∧ s.defs = [] := by
  unfold stays at h
  cases h1 : anyIn deps s.log with
  | true => rw [h1, ifB_true] at h; cases h
  | false =>
    rw [h1, ifB_false] at h
    obtain ⟨h2, h3⟩ := ifB_and h
    refine ⟨anyIn_no h1, allSeen_all h2, ?_⟩
    cases hd : s.defs with
    | nil => rfl
    | cons x y => rw [hd] at h3; cases h3
theorem roundA_eq {as : Code} {env : T} {ps : List Tmp} {deps : List Nat} {el : List SV} {s s' : St} (h : roundA self cx as env ps deps el s = some s') : ∃ e, putAll cx.N ps el env = some e ∧ self cx (.code as) ⟨e, s.heap, s.n, s.log, []⟩ = some (.normal, s') ∧ (∀ b ∈ deps, b ∉ s'.log) ∧ (∀ b ∈ deps, ∃ bl, hget s'.heap b = some bl) ∧ s'.defs = [] := by
  obtain ⟨e, h1, h⟩ := bindO_eq.1 h
  obtain ⟨s1, h2, h⟩ := only_eq h
  obtain ⟨h3, h⟩ := guardO_eq.1 h
  cases h
  exact ⟨e, h1, h2, stays_eq h3⟩
theorem roundB_eq {bd : Code} {env : T} {deps : List Nat} {s s' : St} (h : roundB self cx bd env deps s = some s') : ∃ s1, self cx (.code bd) s = some (.normal, s1) ∧ (∀ b ∈ deps, b ∉ s1.log) ∧ (∀ b ∈ deps, ∃ bl, hget s1.heap b = some bl) ∧ s' = ⟨env, s1.heap, s1.n, s1.log, []⟩ := by
  obtain ⟨s1, h2, h⟩ := only_eq h
  obtain ⟨h3, h⟩ := guardO_eq.1 h
  cases h
  obtain ⟨k1, k2, -⟩ := stays_eq h3
  exact ⟨s1, h2, k1, k2, rfl⟩
theorem roundsS_append {as bd : Code} {env : T} {ps : List Tmp} {deps : List Nat} : ∀ (l m : List (List SV)) (s : St), roundsS self cx as bd env ps deps (l ++ m) s = bindO (roundsS self cx as bd env ps deps l s) (roundsS self cx as bd env ps deps m)
  | [], m, s => rfl
  | el :: l, m, s => by
    show bindO (roundS self cx as bd env ps deps el s) (roundsS self cx as bd env ps deps (l ++ m)) = bindO (bindO (roundS self cx as bd env ps deps el s) (roundsS self cx as bd env ps deps l)) _
    cases roundS self cx as bd env ps deps el s with
    | none => rfl
    | some s1 => exact roundsS_append l m s1
/-- One round's place in the whole. -/
theorem rounds_at {as bd : Code} {env : T} {ps : List Tmp} {deps : List Nat} {els : List (List SV)} {s s2 st : St} {k : Nat} {el : List SV} (h : roundsS self cx as bd env ps deps els s = some s2) (hk : els[k]? = some el) (hst : roundsS self cx as bd env ps deps (els.take k) s = some st) :
    ∃ sa st', roundA self cx as env ps deps el st = some sa ∧ roundB self cx bd env deps sa = some st' ∧ roundsS self cx as bd env ps deps (els.take (k + 1)) s = some st' := by
  have e1 : els.take (k + 1) = els.take k ++ [el] := by rw [List.take_add_one, hk]; rfl
  have e2 : els = els.take (k + 1) ++ els.drop (k + 1) := (List.take_append_drop _ _).symm
  rw [e2, roundsS_append] at h
  obtain ⟨st', h1, -⟩ := bindO_eq.1 h
  have h2 := h1
  rw [e1, roundsS_append, hst] at h2
  obtain ⟨s1, h3, h4⟩ := bindO_eq.1 (show bindO (roundS self cx as bd env ps deps el st) (fun s => some s) = some st' from h2)
  cases h4
  obtain ⟨sa, h5, h6⟩ := bindO_eq.1 h3
  exact ⟨sa, st', h5, h6, h1⟩
theorem kp_of {base : Nat} {ρ1 ρ' : Va} {st s3 : St} {W W' : World} {deps : List Nat} (mv : Mv base ρ1 st W ρ' s3 W') (hh : HpOK ρ1 st.n st.heap W) (hseen : ∀ b ∈ deps, ∃ bl, hget st.heap b = some bl) (hno : ∀ b ∈ deps, b ∉ s3.log) (hb : ∀ b ∈ deps, b < base ∧ ρ1.blk b = ρ.blk b) : KpI ρ deps W W' := by
  obtain ⟨L, x, hl⟩ := mv
  refine ⟨x.size, fun b hbd o ho _ => ?_⟩
  obtain ⟨hbb, hbe⟩ := hb b hbd
  rw [← hbe] at ho ⊢
  refine (x.frame _ (Array.getElem?_eq_some_iff.1 ho).1 fun b' hb' hbn e => ?_).trans ho
  obtain ⟨y, hy⟩ := x.vis b' hb' hbn
  obtain ⟨z, hz⟩ := hseen b hbd
  have := hh.inj b' b y z hy hz e
  subst this
  exact hno b' hbd ((hl b' hbb).2 (.inl hb'))
theorem ColOK.lt {lo : Nat} : ∀ {l : List (Nat × List SV)}, ColOK lo ρ w l → ∀ d ∈ l, ∀ b, d.2 = [.ptr b 0] → ρ.blk b < w.heap.size
  | d :: l, ⟨⟨b1, h1, _, h3, _⟩, h⟩, e, he, b, hb => by
    rcases List.mem_cons.1 he with rfl | he
    · obtain rfl : b1 = b := by rw [h1] at hb; injection hb with hb; injection hb
      exact (Array.getElem?_eq_some_iff.1 h3).1
    · exact ColOK.lt h e he b hb
theorem range_ok {it : ItO} (hr : SelfOKr P self) (hi : ItOK P it) {g : Operand} {ps : Array Tmp} {as bd : Code} {x : X} {v : SV} (hv : opv s.env g = some v) (h : rangeS it self cx ps.toList as bd v s = some (x, s')) {lo : Nat} (hok : Ok cx.N ρ s a w) (hcol : ColOK lo ρ w (colsOf s.defs)) (hlo : lo ≤ w.heap.size) (hb : cx.base ≤ s.n) {Q : Exit → Act → World → Prop}
    (hq : ∀ ρ' a' w', Ok cx.N ρ' s' a' w' → ColOK lo ρ' w' (colsOf s'.defs) → Mv cx.base ρ s w ρ' s' w' → Q x.toE a' w') : (Code.rangeFunc g ps as bd).wp P Q a w := by
  unfold rangeS at h
  split at h
  · rename_i f caps
    obtain ⟨⟨deps, els⟩, hit, h⟩ := bindO_eq.1 h
    obtain ⟨c1, h⟩ := guardO_eq.1 h
    obtain ⟨c2, h⟩ := guardO_eq.1 h
    rw [force_eq] at h
    obtain ⟨s2, h2, h⟩ := bindO_eq.1 h
    cases h
    obtain ⟨el_sc, dseen, hent, hseq⟩ := hi f caps _ deps els hit
    obtain ⟨eg, -⟩ := opv_ok hok.env hok.hp hv
    rw [conc_fn] at eg
    obtain ⟨encs, henc, hsq⟩ := hseq ρ s.n w hok.hp
    obtain ⟨ρ0, hρ0⟩ : ∃ ρ0 : Va, ρ0 = ⟨fun b => if b = s.n then w.heap.size else ρ.blk b, ρ.cap⟩ := ⟨_, rfl⟩
    have hag : Agr s.n ρ ρ0 := fun b hb => by rw [hρ0]; exact ⟨if_neg (by omega), rfl⟩
    have hD : ρ0.blk s.n = w.heap.size := by rw [hρ0]; exact if_pos rfl
    obtain ⟨s0, hs0⟩ : ∃ s0 : St, s0 = ⟨s.env, s.heap, s.n + 1, [], []⟩ := ⟨_, rfl⟩
    rw [← hs0] at h2
    have hbig := hok.hp.big
    have hp0 : HpOK ρ0 s0.n s0.heap w := by
      rw [hs0]
      refine ⟨hok.hp.srt.mono (Nat.le_succ _), fun b bl hbl y hy => (hok.hp.sc b bl hbl y hy).mono (Nat.le_succ _), fun b bl hbl => (hok.hp.bk b bl hbl).move (hok.hp.srt.lt hbl) (hok.hp.sc b bl hbl) hag rfl, fun b b' y z hy hz e => ?_, fun g hg => ?_, Nat.le_trans hbig (Nat.le_succ _)⟩
      · rw [(hag b (hok.hp.srt.lt hy)).1, (hag b' (hok.hp.srt.lt hz)).1] at e
        exact hok.hp.inj b b' y z hy hz e
      · rw [(hag g (by omega)).1]; exact hok.hp.glob g hg
    have e0 : Ext [] ρ s.n s.heap w ρ0 s0.n s0.heap w := by
      rw [hs0, hρ0]
      exact ⟨Nat.le_succ _, Nat.le_refl _, fun b hb => ⟨if_neg (by simp only at hb; omega), rfl⟩, fun b _ y hy => ⟨y, hy⟩, fun _ _ _ => rfl, fun b hb => (by cases hb), fun b hb y hy => absurd (hok.hp.srt.lt hy) (by omega), Side.refl w⟩
    have hn0 : s0.n = s.n + 1 := by rw [hs0]
    have hdep : ∀ b ∈ deps, b < s.n := fun b hbd => let ⟨bl, hbl⟩ := dseen b hbd; hok.hp.srt.lt hbl
    -- what holds ahead of round k
    let I : Nat → World → Prop := fun k W => ∃ st ρ', roundsS self ⟨s.n + 1, cx.N⟩ as bd s.env ps.toList deps (els.take k) s0 = some st ∧ HpOK ρ' st.n st.heap W ∧ Mv (s.n + 1) ρ0 s0 w ρ' st W ∧ (∀ b ∈ deps, ∃ bl, hget st.heap b = some bl) ∧ (∀ b ∈ deps, b ∉ st.log) ∧ st.env = s.env ∧ st.defs = []
    let Ax : Nat → Act → World → Prop := fun k a' W => ∃ el st sa st' ρ', els[k]? = some el ∧ roundsS self ⟨s.n + 1, cx.N⟩ as bd s.env ps.toList deps (els.take k) s0 = some st ∧ roundA self ⟨s.n + 1, cx.N⟩ as s.env ps.toList deps el st = some sa ∧ roundB self ⟨s.n + 1, cx.N⟩ bd s.env deps sa = some st' ∧
      roundsS self ⟨s.n + 1, cx.N⟩ as bd s.env ps.toList deps (els.take (k + 1)) s0 = some st' ∧ Ok cx.N ρ' sa a' W ∧ Mv (s.n + 1) ρ0 s0 w ρ' sa W
    have agk : ∀ {ρ' st W}, Mv (s.n + 1) ρ0 s0 w ρ' st W → Agr s.n ρ ρ' := fun {ρ' st W} mv b hbn => by
      obtain ⟨L, x, -⟩ := mv
      obtain ⟨g1, g2⟩ := x.ag b (by rw [hn0]; omega)
      exact ⟨g1.trans (hag b hbn).1, g2.trans (hag b hbn).2⟩
    refine wp_rangeEx (I := I) (Ax := Ax) (Kp := KpI ρ deps) eg hent hsq (fun h k => h.trans k) (fun W l o o' hl ho => KpI.put W l o o' hl ho) (fun k hk => ?_) ?_ ?_ ?_ ?_ ?_ ?_
    · -- the elements' sizes
      have hel : els[k]? = some els[k] := List.getElem?_eq_getElem hk
      rw [henc k _ hel]
      obtain ⟨st, hst⟩ : ∃ st, roundsS self ⟨s.n + 1, cx.N⟩ as bd s.env ps.toList deps (els.take k) s0 = some st := by
        have e2 : els = els.take k ++ els.drop k := (List.take_append_drop _ _).symm
        rw [e2, roundsS_append] at h2
        obtain ⟨st', h1, -⟩ := bindO_eq.1 h2
        exact ⟨st', h1⟩
      obtain ⟨sa, st', h5, -, -⟩ := rounds_at h2 hel hst
      obtain ⟨e, he, -⟩ := bindO_eq.1 h5
      have : ∀ {ps : List Tmp} {el : List SV} {env e : T}, putAll cx.N ps el env = some e → el.length = ps.length := by
        intro ps
        induction ps with
        | nil => intro el env e h; cases el with
          | nil => rfl
          | cons x el => cases h
        | cons p ps ih => intro el env e h; cases el with
          | nil => cases h
          | cons x el =>
            obtain ⟨-, h⟩ := guardO_eq.1 (show guardO (Nat.ble (Nat.succ p) cx.N) ((env.put p x).strict fun env => putAll cx.N ps el env) = some e from h)
            rw [T.strict_eq] at h
            simp [ih h]
      simpa using this he
    · -- it hangs on cells alone
      rintro k W W' row ⟨st, ρ', k1, k2, k3, k4⟩ hg hr'
      exact ⟨st, ρ', k1, k2.grown hg fun r e => (hr' r e).2, k3.grown hg fun r e => (hr' r e).1, k4⟩
    · exact ⟨s0, ρ0, rfl, hp0, Mv.refl hp0.srt, fun b hbd => by rw [hs0]; exact dseen b hbd, fun b _ => by rw [hs0]; simp, by rw [hs0], by rw [hs0]⟩
    · rintro k a' u W W' row ⟨el, st, sa, st', ρ', k1, k2, k3, k4, k5, k6, k7⟩ hg hr'
      exact ⟨el, st, sa, st', ρ', k1, k2, k3, k4, k5, ⟨k6.env, k6.hp.grown hg fun r e => (hr' r e).2, k6.size⟩, k7.grown hg fun r e => (hr' r e).1⟩
    · -- the code that sets the variables
      rintro l k W K hk ⟨st, ρ', k1, k2, k3, k4, k5, k6, k7⟩ hK
      have hel : els[k]? = some els[k] := List.getElem?_eq_getElem hk
      obtain ⟨sa, st', h5, h6, h7⟩ := rounds_at h2 hel k1
      obtain ⟨e, he, hA, hA1, hA2, hA3⟩ := roundA_eq h5
      have hscl := el_sc _ (List.mem_of_getElem? hel)
      have hconc : els[k].map (SV.conc ρ') = els[k].map (SV.conc ρ) := Sc.map (n := s.n) (fun x hx => hscl x hx _) (agk k3)
      have henv0 : EnvOK ρ' ⟨s.env, st.heap, st.n, st.log, []⟩ { tmps := a.tmps, defers := [] } := ⟨fun j y hy => by rw [hok.env.sc j y hy ρ ρ' (agk k3)]; exact hok.env.env j y hy, fun j y hy => (hok.env.sc j y hy).mono (by have := k3.le; rw [hn0] at this; show s.n ≤ st.n; omega), trivial⟩
      obtain ⟨p1, p2, -⟩ := putAll_ok (cx := ⟨s.n + 1, cx.N⟩) he henv0 hok.size (fun x hx => hscl x hx _)
      have etm : (ps.zip (encs k)).foldl (fun t (p, v) => t.setIfInBounds p v) a.tmps = (ps.toList.zip (els[k].map (SV.conc ρ'))).foldl (fun t p => t.setIfInBounds p.1 p.2) a.tmps := by
        rw [henc k _ hel, ← Array.foldl_toList, Array.toList_zip, hconc]
      rw [etm]
      have hbk : s.n + 1 ≤ st.n := by have := k3.le; rw [hn0] at this; exact this
      refine hr l 3 ⟨s.n + 1, cx.N⟩ (.code as) _ _ _ hA c1 ρ' _ W ⟨p1, k2, p2⟩ hbk _ fun ρ2 a2 W2 ok2 mv2 => ?_
      have mv2' : Mv (s.n + 1) ρ' st W ρ2 sa W2 := mv2
      refine hK a2 W2 ?_ (kp_of mv2' k2 k4 hA1 fun b hbd => ⟨by have := hdep b hbd; omega, (agk k3 b (hdep b hbd)).1⟩) ⟨_, st, sa, st', ρ2, hel, k1, h5, h6, h7, ok2, Mv.trans (by rw [hn0]; exact Nat.le_refl _) k3 mv2'⟩
      obtain ⟨L, x, -⟩ := mv2'
      exact x.keeps k2 _
    · -- the body
      rintro l k a' W hk ⟨el, st, sa, st', ρ', k1, k2, k3, k4, k5, k6, k7⟩
      obtain ⟨s1, hB, hB1, hB2, rfl⟩ := roundB_eq k4
      obtain ⟨-, -, -, -, hA2, hA3⟩ := roundA_eq k3
      have hbk : s.n + 1 ≤ sa.n := by have := k7.le; rw [hn0] at this; exact this
      refine hr l 3 ⟨s.n + 1, cx.N⟩ (.code bd) _ _ _ hB c2 ρ' _ W k6 hbk _ fun ρ2 a2 W2 ok2 mv2 => ?_
      have mv2' : Mv (s.n + 1) ρ' sa W ρ2 s1 W2 := mv2
      refine ⟨rfl, ?_, kp_of mv2' k6.hp hA2 hB1 fun b hbd => ⟨by have := hdep b hbd; omega, (agk k7 b (hdep b hbd)).1⟩, ⟨_, ρ2, k5, ok2.hp, ?_, hB2, hB1, rfl, rfl⟩⟩
      · obtain ⟨L, x, -⟩ := mv2'
        exact x.keeps k6.hp _
      · exact Mv.trans (by rw [hn0]; exact Nat.le_refl _) k7 mv2'
    · -- behind the range
      rintro W ⟨st, ρ', k1, k2, k3, k4, k5, k6, k7⟩ hdef
      rw [List.take_length, h2] at k1
      cases k1
      obtain ⟨L, x, hl⟩ := k3
      have hle := x.le
      rw [hn0] at hle
      have hag' := agk ⟨L, x, hl⟩
      have hDb : ρ'.blk s.n = w.heap.size := (x.ag s.n (by rw [hn0]; omega)).1.trans hD
      have x2 : Ext (olds s.n L) ρ s.n s.heap w ρ' s2.n s2.heap W := Ext.trans e0 x fun b => by rw [olds_mem]; simp
      refine hq ρ' _ W ⟨⟨fun j y hy => ?_, fun j y hy => (hok.env.sc j y hy).mono (by show s.n ≤ s2.n; omega), ⟨.inr ⟨rfl, s.n, rfl, by show s.n < s2.n; omega, by rw [hDb]⟩, hok.env.defs.move (by show s.n ≤ s2.n; omega) hag'⟩⟩, k2, hok.size⟩ ?_ ⟨olds s.n L, x2, fun b hbb => ?_⟩
      · rw [hok.env.sc j y hy ρ ρ' hag']; exact hok.env.env j y hy
      · show ColOK lo ρ' W (colsOf ((colTag, [.ptr s.n (nat_lit 0)]) :: s.defs))
        have e : colsOf ((colTag, [.ptr s.n (nat_lit 0)]) :: s.defs) = (colTag, [.ptr s.n 0]) :: colsOf s.defs := by simp [colsOf]
        rw [e]
        have hnames : ∀ d ∈ colsOf s.defs, ∃ b, d.2 = [.ptr b 0] ∧ b < s.n := fun d hm => hok.env.defs.col d (colsOf_mem hm).1 (colsOf_mem hm).2
        refine ⟨⟨s.n, rfl, by rw [hDb]; exact hlo, by rw [hDb]; exact hdef, fun d' hd' b' hb' e9 => ?_⟩, ColOK.move x2 hok.hp hnames hcol⟩
        have h8 := hcol.lt d' hd' b' hb'
        obtain ⟨b1, e1, hb1⟩ := hnames d' hd'
        obtain rfl : b1 = b' := by rw [hb'] at e1; injection e1 with e1; injection e1 with e1; exact e1.symm
        rw [hDb, (hag' b1 hb1).1] at e9
        omega
      · show b ∈ olds cx.base s2.log ++ s.log ↔ _
        rw [List.mem_append, olds_mem, olds_mem, hl b (by omega)]
        constructor
        · rintro (⟨h | h, -⟩ | h)
          · exact .inl ⟨h, by omega⟩
          · rw [hs0] at h; cases h
          · exact .inr h
        · rintro (⟨h, -⟩ | h)
          · exact .inl ⟨.inl h, hbb⟩
          · exact .inr h
  · cases h
theorem code_ok {I : Its} (hs : SelfOK P self) (hr : SelfOKr P self) (ho : OraOK P ora) (hi : ItsOK P I) (hm : P.follows .mixedOrders = true) {c : Code} {x : X} (h : exCode P ora I self cx c s = some (x, s')) {lo : Nat} (hok : Ok cx.N ρ s a w) (hcol : ColOK lo ρ w (colsOf s.defs)) (hlo : lo ≤ w.heap.size) (hb : cx.base ≤ s.n) {Q : Exit → Act → World → Prop}
    (hq : ∀ ρ' a' w', Ok cx.N ρ' s' a' w' → ColOK lo ρ' w' (colsOf s'.defs) → Mv cx.base ρ s w ρ' s' w' → Q x.toE a' w') : c.wp P Q a w := by
  unfold exCode at h
  split at h
  · cases h; exact wp_skip (hq ρ a w hok hcol (Mv.refl hok.hp.srt))
  · cases h; exact wp_label (hq ρ a w hok hcol (Mv.refl hok.hp.srt))
  · obtain ⟨s1, h1, h⟩ := bindO_eq.1 h
    cases h
    exact wp_region_list (exOps_ok (exCall_ok hs hi ho) h1 hok hb fun ρ' a' w' ok' hc' mv' => hq ρ' a' w' ok' (ColOK.mv mv' hok.hp hok.env.defs hcol hc') mv')
  · obtain ⟨s1, h1, h⟩ := bindO_eq.1 h
    cases h
    exact exDraw_ok (exCall_ok hs hi ho) hm h1 hok fun ρ' a' w' ok' hc' mv' => hq ρ' a' w' ok' (ColOK.mv mv' hok.hp hok.env.defs hcol (by rw [hc'])) mv'
  · rename_i c1 c2
    rcases then_eq h with ⟨s1, h1, h2⟩ | ⟨h1, h2⟩
    · exact wp_seq (hs _ _ _ _ _ h1 lo ρ a w hok hcol hlo hb _ fun ρ1 a1 w1 ok1 col1 mv1 => hs _ _ _ _ _ h2 lo ρ1 a1 w1 ok1 col1 (Nat.le_trans hlo mv1.size) (Nat.le_trans hb mv1.le) Q fun ρ2 a2 w2 ok2 col2 mv2 => hq ρ2 a2 w2 ok2 col2 (Mv.trans hb mv1 mv2))
    · exact wp_seq (hs _ _ _ _ _ h1 lo ρ a w hok hcol hlo hb _ fun ρ1 a1 w1 ok1 col1 mv1 => by rw [h2]; exact hq ρ1 a1 w1 ok1 col1 mv1)
  · rename_i p c1 c2
    obtain ⟨v, hv, h⟩ := bindO_eq.1 h
    obtain ⟨c', hc', h⟩ := bindO_eq.1 h
    have e := (opv_ok hok.env hok.hp hv).1
    unfold condC at hc'
    split at hc'
    · rename_i t
      rw [conc_v] at e
      refine wp_cond e ?_
      cases t
      · cases hc'; exact hs _ _ _ _ _ h lo ρ a w hok hcol hlo hb Q hq
      · cases hc'; exact hs _ _ _ _ _ h lo ρ a w hok hcol hlo hb Q hq
    · cases hc'
  · rename_i id c1
    obtain ⟨⟨y, s1⟩, h1, h⟩ := bindO_eq.1 h
    refine wp_block (hs _ _ _ _ _ h1 lo ρ a w hok hcol hlo hb _ fun ρ1 a1 w1 ok1 col1 mv1 => ?_)
    cases y with
    | exit j =>
      obtain h : some (ifB (Nat.beq j id) X.normal (.exit j), s1) = some (x, s') := h
      show if j = id then Q .normal a1 w1 else Q (.exit j) a1 w1
      rcases beq_dec j id with ⟨e, rfl⟩ | ⟨e, hne⟩
      · rw [e] at h; cases h; rw [if_pos rfl]; exact hq ρ1 a1 w1 ok1 col1 mv1
      · rw [e] at h; cases h; rw [if_neg hne]; exact hq ρ1 a1 w1 ok1 col1 mv1
    | normal => cases h; exact hq ρ1 a1 w1 ok1 col1 mv1
    | goto l => cases h; exact hq ρ1 a1 w1 ok1 col1 mv1
    | ret => cases h; exact hq ρ1 a1 w1 ok1 col1 mv1
  · exact wp_of_loop (hs _ _ _ _ _ h lo ρ a w hok hcol hlo hb Q hq)
  · cases h; exact wp_exit (hq ρ a w hok hcol (Mv.refl hok.hp.srt))
  · exact wp_of_scope (hs _ _ _ _ _ h lo ρ a w hok hcol hlo hb Q hq)
  · cases h; exact wp_goto (hq ρ a w hok hcol (Mv.refl hok.hp.srt))
  · cases h; exact wp_ret (hq ρ a w hok hcol (Mv.refl hok.hp.srt))
  · obtain ⟨v, hv, h⟩ := bindO_eq.1 h
    exact range_ok hr hi.it hv h hok hcol hlo hb hq
  · cases h
theorem body_ok {I : Its} (hs : SelfOK P self) (hr : SelfOKr P self) (ho : OraOK P ora) (hi : ItsOK P I) (hm : P.follows .mixedOrders = true) : SelfOK P (exBody P ora I self) := by
  intro cx t s x s' h lo ρ a w hok hcol hlo hb Q hq
  cases t with
  | code c => exact code_ok hs hr ho hi hm h hok hcol hlo hb hq
  | looping c =>
    refine loop_round ?_
    rcases then_eq (show andThen (self cx (.code c) s) (fun s => self cx (.looping c) s) = some (x, s') from h) with ⟨s1, h1, h2⟩ | ⟨h1, h2⟩
    · exact hs _ _ _ _ _ h1 lo ρ a w hok hcol hlo hb _ fun ρ1 a1 w1 ok1 col1 mv1 => hs _ _ _ _ _ h2 lo ρ1 a1 w1 ok1 col1 (Nat.le_trans hlo mv1.size) (Nat.le_trans hb mv1.le) Q fun ρ2 a2 w2 ok2 col2 mv2 => hq ρ2 a2 w2 ok2 col2 (Mv.trans hb mv1 mv2)
    · exact hs _ _ _ _ _ h1 lo ρ a w hok hcol hlo hb _ fun ρ1 a1 w1 ok1 col1 mv1 => by rw [h2]; exact hq ρ1 a1 w1 ok1 col1 mv1
  | inScope c cur =>
    refine scope_piece ?_
    obtain ⟨⟨y, s1⟩, h1, h⟩ := bindO_eq.1 (show bindO (self cx (.code cur) s) (scopeX self cx c) = some (x, s') from h)
    refine hs _ _ _ _ _ h1 lo ρ a w hok hcol hlo hb _ fun ρ1 a1 w1 ok1 col1 mv1 => ?_
    cases y with
    | goto l =>
      show match findLabel c l with | some rest => ScopeWp P c rest Q a1 w1 | none => Q (.goto l) a1 w1
      obtain h : Option.rec (some (X.goto l, s1)) (fun rest => self cx (.inScope c rest) s1) (findLabel c l) = some (x, s') := h
      cases hf : findLabel c l with
      | none => rw [hf] at h; cases h; exact hq ρ1 a1 w1 ok1 col1 mv1
      | some rest => rw [hf] at h; exact hs _ _ _ _ _ h lo ρ1 a1 w1 ok1 col1 (Nat.le_trans hlo mv1.size) (Nat.le_trans hb mv1.le) Q fun ρ2 a2 w2 ok2 col2 mv2 => hq ρ2 a2 w2 ok2 col2 (Mv.trans hb mv1 mv2)
    | normal => cases h; exact hq ρ1 a1 w1 ok1 col1 mv1
    | exit id => cases h; exact hq ρ1 a1 w1 ok1 col1 mv1
    | ret => cases h; exact hq ρ1 a1 w1 ok1 col1 mv1
theorem ex_ok {I : Its} (ho : OraOK P ora) (hi : ItsOK P I) (hm : P.follows .mixedOrders = true) : ∀ n, SelfOK P (ex P ora I n) ∧ SelfOKr P (ex P ora I n)
  | 0 => ⟨fun _ _ _ _ _ h => (by cases h), fun _ _ _ _ _ _ _ h => (by cases h)⟩
  | n + 1 => let ⟨h1, h2⟩ := ex_ok ho hi hm n; ⟨body_ok h1 h2 ho hi hm, bodyR_ok h1 h2 hi ho hm⟩
/-- A closed call: what the runner answers is what the code answers; nothing that was there before is written. -/
theorem runI_ok {I : Its} (ho : OraOK P ora) (hi : ItsOK P I) (hm : P.follows .mixedOrders = true) {n f : Nat} {args : List SV} {v : SV} {H : List Hp} (h : exRunI P ora I n f args H = some v) {ρ : Va} {w : World} (hh : HpOK ρ 4096 H w) (ha : ∀ x ∈ args, Sc 4096 x) :
    SemVal P ((callFunc f (args.map (SV.conc ρ)).toArray).run P w) fun u w' => ∃ ρ', u = v.conc ρ' ∧ Below w.heap.size w w' := by
  obtain ⟨⟨v', s'⟩, h1, h⟩ := bindO_eq.1 h
  obtain ⟨h2, h⟩ := guardO_eq.1 h
  cases h
  refine (exCall_ok (ex_ok ho hi hm n).1 hi ho ⟨4096, 0⟩ f args ⟨.nil, H, 4096, [], []⟩ _ s' h1 ρ w hh ha (Nat.le_refl _)).mono fun u w' ⟨ρ', hu, eff⟩ => ⟨ρ', hu, ?_⟩
  obtain ⟨L, x, hlog⟩ := eff.ext
  have hnil : s'.log = [] := by
    replace h2 : List.isEmpty s'.log = true := h2
    cases hl : s'.log with
    | nil => rfl
    | cons a b => rw [hl] at h2; cases h2
  refine ⟨x.side.os, x.side.tape, x.side.output, x.size, fun r hr => x.frame r hr fun b hb hbn => ?_⟩
  have : b ∈ olds 4096 L := olds_mem.2 ⟨hb, hbn⟩
  rw [hnil] at hlog
  have h3 : olds 4096 L = [] := by
    have : olds 4096 L ++ [] = [] := hlog.symm
    simpa using this
  rw [h3] at this
  cases this
theorem run_ok (ho : OraOK P ora) (hm : P.follows .mixedOrders = true) {n f : Nat} {args : List SV} {v : SV} {H : List Hp} (h : exRun P ora n f args H = some v) {ρ : Va} {w : World} (hh : HpOK ρ 4096 H w) (ha : ∀ x ∈ args, Sc 4096 x) :
    SemVal P ((callFunc f (args.map (SV.conc ρ)).toArray).run P w) fun u w' => ∃ ρ', u = v.conc ρ' ∧ Below w.heap.size w w' := runI_ok ho noIts_ok hm h hh ha
end
end Go.Ex
