/- Code and calls: what the runner says of a piece of code, of a function's body, of its deferred calls, of a call. -/
import Derived.Test.YtneakieigiafpaaGreatDoorExM
namespace Go.Ex
open Go Go.RowKit

def X.toE : X → Exit
  | .normal => .normal
  | .exit id => .exit id
  | .goto l => .goto l
  | .ret => .ret
def TaskWp (P : Program) (t : Task) (Q : Exit → Act → World → Prop) (a : Act) (w : World) : Prop := match t with
  | .code c => c.wp P Q a w
  | .looping c => LoopWp P c Q a w
  | .inScope c cur => ScopeWp P c cur Q a w
/-- What the runner says of code. -/
def SelfOK (P : Program) (self : Self) : Prop := ∀ cx t s x s', self cx t s = some (x, s') → ∀ ρ a w, Ok cx.N ρ s a w → cx.base ≤ s.n → ∀ Q : Exit → Act → World → Prop,
  (∀ ρ' a' w', Ok cx.N ρ' s' a' w' → Mv cx.base ρ s w ρ' s' w' → Q x.toE a' w') → TaskWp P t Q a w
/-- What is told of functions without a look at their code. -/
def OraOK (P : Program) (ora : Nat → List SV → List Hp → Option SV) : Prop := ∀ f args heap v, ora f args heap = some v → (∀ n, Sc n v) ∧ ∀ ρ n w, HpOK ρ n heap w → (∀ x ∈ args, Sc n x) → SemVal P ((callFunc f (args.map (SV.conc ρ)).toArray).run P w) fun u w' => u = v.conc ρ ∧ Below w.heap.size w w'

section
variable {P : Program} {self : Self} {ora : Nat → List SV → List Hp → Option SV} {cx : Cx} {s s' : St} {ρ : Va} {a : Act} {w : World} {tmps : Array Value}

/-! ### A function's results -/
def resM (tmps : Array Value) (r : ResultVar) : Sem Value := match r with
  | .tmp t => pure (tmps.getD t undef)
  | .cell a t => do loadVar t (← asAddr (tmps.getD a undef))
structure SlotOK (ρ : Va) (s : St) (tmps : Array Value) : Prop where
  env : ∀ k x, s.env.get k = some x → tmps[k]? = some (x.conc ρ)
  sc : ∀ k x, s.env.get k = some x → Sc s.n x
theorem res_ok (he : SlotOK ρ s tmps) (hh : HpOK ρ s.n s.heap w) {r : ResultVar} {v : SV} (h : resV P s r = some v) : (resM tmps r).run P w = .ok (v.conc ρ) w ∧ Sc s.n v := by
  cases r with
  | tmp t =>
    have h1 := he.env t v h
    exact ⟨by simp [resM, h1], he.sc t v h⟩
  | cell p t =>
    obtain ⟨q, hq, h⟩ := bindO_eq.1 (show bindO (s.env.get p) (fun p => loadS P s.heap t p) = some v from h)
    obtain ⟨b, off, rfl, h⟩ := ptrOf_eq h
    obtain ⟨bl, hb, h⟩ := bindO_eq.1 h
    have h1 := he.env p _ hq
    rw [conc_ptr] at h1
    refine ⟨?_, partS_sc (hh.sc b bl hb) h⟩
    have := loadVar_ok (P := P) (hh.bk b bl hb) h
    simp [resM, h1, asAddr, this]
theorem resAll_ok (he : SlotOK ρ s tmps) (hh : HpOK ρ s.n s.heap w) : ∀ {l : List ResultVar} {vs : List SV}, mapO (resV P s) l = some vs → (l.mapM (resM tmps)).run P w = .ok (vs.map (SV.conc ρ)) w ∧ ∀ v ∈ vs, Sc s.n v
  | [], vs, h => by cases h; exact ⟨rfl, fun v hv => (by cases hv)⟩
  | r :: l, vs, h => by
    obtain ⟨y, hy, h⟩ := bindO_eq.1 (show bindO (resV P s r) (fun y => bindO (mapO (resV P s) l) fun ys => some (y :: ys)) = some vs from h)
    obtain ⟨ys, hys, h⟩ := bindO_eq.1 h
    cases h
    obtain ⟨h1, h2⟩ := res_ok he hh hy
    obtain ⟨h3, h4⟩ := resAll_ok he hh hys
    refine ⟨?_, fun v hv => ?_⟩
    · rw [List.mapM_cons]
      simp [h1, h3]
    · rcases List.mem_cons.1 hv with rfl | hv
      · exact h2
      · exact h4 v hv
theorem results_ok (he : SlotOK ρ s tmps) (hh : HpOK ρ s.n s.heap w) {fn : Func} {vs : List SV} (h : mapO (resV P s) fn.results.toList = some vs) : (results fn tmps).run P w = .ok ((oneS vs).conc ρ) w ∧ Sc s.n (oneS vs) := by
  obtain ⟨h1, h2⟩ := resAll_ok he hh h
  have e : results fn tmps = (do let vs ← fn.results.mapM (resM tmps); pure (if h : vs.size = 1 then vs[0] else .tuple vs)) := by
    unfold results
    congr 1
  constructor
  · rw [e, Array.mapM_eq_mapM_toList]
    simp only [Sem.run_bind, Sem.run_map, h1, Result.andThen_ok]
    rcases vs with _ | ⟨x, _ | ⟨y, l⟩⟩ <;> simp [oneS, conc_tup]
  · unfold oneS
    split
    · exact h2 _ (by simp)
    · exact Sc.tup h2

/-! ### A body -/
theorem fnOf_eq {f : Nat} {fi : FnI} (h : fnOf P f = some fi) : ∃ fn, P.funcs[f]? = some fn ∧ fn.body = some fi.body ∧ fn.ntmps = fi.ntmps ∧ fn.results.toList = fi.results ∧ (fn.name == "runtime.NumGoroutine") = false := by
  obtain ⟨fn, h1, h⟩ := bindO_eq.1 h
  obtain ⟨c, h2, h⟩ := bindO_eq.1 h
  obtain ⟨h3, h⟩ := guardO_eq.1 h
  cases h
  exact ⟨fn, h1, h2, rfl, rfl, by simpa using h3⟩
theorem call_run {f : Nat} {fn : Func} {c : Code} (hf : P.funcs[f]? = some fn) (hb : fn.body = some c) (hn : (fn.name == "runtime.NumGoroutine") = false) (args : Array Value) (w : World) : (callFunc f args).run P w = .ok (.enter f args) w := by
  unfold callFunc
  have : (program : Sem Program).run P w = .ok P w := rfl
  rw [Sem.run_bind, this, Result.andThen_ok, hf]
  simp only [hn, hb]
  rfl
def first (s : St) : St := ⟨.nil, s.heap, s.n, [], []⟩
theorem T.nil_get (k : Nat) : T.get .nil k = none := T.getP_nil _
theorem fn_ok (hs : SelfOK P self) {f : Nat} {args : List SV} {fi : FnI} {s2 : St} (h : exFn P self f args s = some (fi, s2)) : ∃ fn c, P.funcs[f]? = some fn ∧ fn.body = some c ∧ (fn.name == "runtime.NumGoroutine") = false ∧ fn.results.toList = fi.results ∧
    ∀ ρ w, HpOK ρ s.n s.heap w → (∀ x ∈ args, Sc s.n x) → ∀ Q : Exit → Act → World → Prop, (∀ e ρ' a' w', (e = .normal ∨ e = .ret) → EnvOK ρ' s2 a' → HpOK ρ' s2.n s2.heap w' → Mv s.n ρ (first s) w ρ' s2 w' → Q e a' w') →
      c.wp P Q { tmps := (args.map (SV.conc ρ)).toArray ++ Array.replicate (fn.ntmps - (args.map (SV.conc ρ)).toArray.size) undef, defers := [] } w := by
  obtain ⟨fi', hfi, h⟩ := bindO_eq.1 h
  obtain ⟨⟨x, s3⟩, hx, h⟩ := bindO_eq.1 h
  obtain ⟨fn, h1, h2, h3, h4, h5⟩ := fnOf_eq hfi
  have h6 : fi' = fi ∧ s3 = s2 ∧ (x.toE = .normal ∨ x.toE = .ret) := by
    cases x <;> cases h
    · exact ⟨rfl, rfl, .inl rfl⟩
    · exact ⟨rfl, rfl, .inr rfl⟩
  obtain ⟨rfl, rfl, hex⟩ := h6
  refine ⟨fn, fi'.body, h1, h2, h5, h4, fun ρ w hh ha Q hq => ?_⟩
  have hget : ∀ {k x}, (T.ofList args 0 .nil).get k = some x → args[k]? = some x := fun {k x} hk => by
    rcases T.ofList_get args 0 .nil k x hk with ⟨i, e1, e2⟩ | e
    · rw [e2, Nat.zero_add]; exact e1
    · rw [T.nil_get] at e; cases e
  have hok : Ok fi'.ntmps ρ ⟨T.ofList args 0 .nil, s.heap, s.n, [], []⟩ { tmps := (args.map (SV.conc ρ)).toArray ++ Array.replicate (fn.ntmps - (args.map (SV.conc ρ)).toArray.size) undef, defers := [] } w := by
    refine ⟨⟨fun k x hk => ?_, fun k x hk => ha x (List.mem_of_getElem? (hget hk)), trivial⟩, hh, ?_⟩
    · have h7 := hget hk
      have hlt := (List.getElem?_eq_some_iff.1 h7).1
      rw [Array.getElem?_append_left (by simpa using hlt)]
      simp [h7]
    · rw [← h3]; simp; omega
  exact hs _ _ _ _ _ hx ρ _ w hok (Nat.le_refl _) Q fun ρ' a' w' ok' mv => hq x.toE ρ' a' w' hex ok'.env ok'.hp mv

/-! ### Deferred calls -/
theorem defer_run {base : Nat} (hs : SelfOK P self) {d : Nat × List SV} {s1 : St} (h : runDef P self d s = some s1) {tmps : Array Value} (he : SlotOK ρ s tmps) (hh : HpOK ρ s.n s.heap w) (hb : base ≤ s.n) {dd : Deferred} {caps : Array Value} (ht : dd.target = .fn (.func d.1) caps) (hargs : dd.args ++ caps = (d.2.map (SV.conc ρ)).toArray) (hsc : ∀ x ∈ d.2, Sc s.n x)
    {fn : Func} {R : Ending → World → Prop} {ds : List Deferred} (hk : ∀ ρ' w', SlotOK ρ' s1 tmps → HpOK ρ' s1.n s1.heap w' → Mv base ρ s w ρ' s1 w' → Leaves P fn tmps R ds .returning w') : Leaves P fn tmps R (dd :: ds) .returning w := by
  obtain ⟨⟨fi, s2⟩, hfn, h⟩ := bindO_eq.1 h
  obtain ⟨h1, h⟩ := guardO_eq.1 h
  obtain ⟨vs, hvs, h⟩ := bindO_eq.1 h
  cases h
  obtain ⟨fn', c, g1, g2, g3, g4, g5⟩ := fn_ok hs hfn
  refine ⟨by simp, .func d.1, caps, d.1, (d.2.map (SV.conc ρ)).toArray, ht, ?_, ?_⟩
  · rw [ht]
    show (callFunc d.1 (dd.args ++ caps)).run P w = _
    rw [hargs]
    exact call_run g1 g2 g3 _ w
  · refine CallsD.mono (callsD_of_wp (R := fun e w' => ∃ v, e = .returned v ∧ ∃ ρ', HpOK ρ' s2.n s2.heap w' ∧ Mv s.n ρ (first s) w ρ' s2 w') g1 g2 (g5 ρ w hh hsc _ fun e ρ' a' w' hex hen hhp mv => ?_)) fun e u' w' hr => ?_
    · have hdef : a'.defers = [] := by
        have := hen.defs
        cases hd : s2.defs with
        | nil =>
          rw [hd] at this
          cases hd2 : a'.defers with
          | nil => rfl
          | cons x y => rw [hd2] at this; exact this.elim
        | cons x y => replace h1 : List.isEmpty s2.defs = true := h1; rw [hd] at h1; cases h1
      have hres := results_ok (fn := fn') (tmps := a'.tmps) ⟨hen.env, hen.sc⟩ hhp (P := P) (vs := vs) (by rw [g4]; exact hvs)
      have hpost : a'.defers = [] ∧ ∃ v, (results fn' a'.tmps).run P w' = .ok v w' ∧ (∃ v', Ending.returned v = .returned v' ∧ ∃ ρ', HpOK ρ' s2.n s2.heap w' ∧ Mv s.n ρ (first s) w ρ' s2 w') := ⟨hdef, _, hres.1, _, rfl, ρ', hhp, mv⟩
      rcases hex with rfl | rfl
      · exact hpost
      · exact hpost
    · obtain ⟨rfl, v, rfl, ρ', hhp, L, x, hlog⟩ := hr
      refine hk ρ' w' ⟨fun k y hy => ?_, fun k y hy => (he.sc k y hy).mono x.le⟩ hhp ⟨L, x, fun b hbb => ?_⟩
      · rw [he.sc k y hy ρ ρ' x.ag]; exact he.env k y hy
      · have := hlog b (by omega)
        show b ∈ s.log ++ s2.log ↔ _
        rw [List.mem_append, this]
        constructor
        · rintro (h | h | h)
          · exact .inr h
          · exact .inl h
          · cases h
        · rintro (h | h)
          · exact .inr (.inl h)
          · exact .inl h
theorem defers_ok {base : Nat} (hs : SelfOK P self) {tmps : Array Value} {fn : Func} {R : Ending → World → Prop} : ∀ {l : List (Nat × List SV)} {ds : List Deferred} {s s2 : St} {ρ : Va} {w : World}, exDefs P self l s = some s2 → SlotOK ρ s tmps → HpOK ρ s.n s.heap w → base ≤ s.n → DefOK ρ s.n l ds →
    (∀ ρ' w', SlotOK ρ' s2 tmps → HpOK ρ' s2.n s2.heap w' → Mv base ρ s w ρ' s2 w' → ∃ v, (results fn tmps).run P w' = .ok v w' ∧ R (.returned v) w') → Leaves P fn tmps R ds .returning w
  | [], [], s, s2, ρ, w, h, he, hh, hb, _, hk => by
    cases h
    exact hk ρ w he hh (Mv.refl hh.srt)
  | [], _ :: _, _, _, _, _, _, _, _, _, hd, _ => hd.elim
  | _ :: _, [], _, _, _, _, _, _, _, _, hd, _ => hd.elim
  | (f, as) :: l, dd :: ds, s, s2, ρ, w, h, he, hh, hb, ⟨⟨caps, h1, h2, h3⟩, hd⟩, hk => by
    obtain ⟨s1, hs1, h⟩ := bindO_eq.1 (show bindO (runDef P self (f, as) s) (exDefs P self l) = some s2 from h)
    refine defer_run (d := (f, as)) hs hs1 he hh hb h1 h2 h3 fun ρ' w' he' hh' mv => ?_
    obtain ⟨L, x, hlog⟩ := mv
    exact defers_ok hs h he' hh' (Nat.le_trans hb x.le) (hd.move x.le x.ag) fun ρ2 w2 he2 hh2 mv2 => hk ρ2 w2 he2 hh2 (Mv.trans hb ⟨L, x, hlog⟩ mv2)

/-! ### A call -/
theorem enter_ok (hs : SelfOK P self) {f : Nat} {args : List SV} {v : SV} (h : enter P self cx f args s = some (v, s')) (hh : HpOK ρ s.n s.heap w) (ha : ∀ x ∈ args, Sc s.n x) (hb : cx.base ≤ s.n) :
    SemVal P ((callFunc f (args.map (SV.conc ρ)).toArray).run P w) fun u w' => ∃ ρ', u = v.conc ρ' ∧ Eff cx s v s' ρ w ρ' w' := by
  obtain ⟨⟨fi, s1⟩, hfn, h⟩ := bindO_eq.1 h
  obtain ⟨s2, hs2, h⟩ := bindO_eq.1 h
  obtain ⟨vs, hvs, h⟩ := bindO_eq.1 h
  obtain ⟨fn, c, g1, g2, g3, g4, g5⟩ := fn_ok hs hfn
  rw [call_run g1 g2 g3]
  show Calls P f _ w _
  refine calls_of_wp_defers g1 g2 (g5 ρ w hh ha _ fun e ρ1 a1 w1 hex hen hhp mv => ?_)
  have hle1 := mv.le
  have hpost : Leaves P fn a1.tmps (fun e w'' => ∃ u, e = .returned u ∧ ∃ ρ', u = v.conc ρ' ∧ Eff cx s v s' ρ w ρ' w'') a1.defers .returning w1 := by
    refine defers_ok (base := s.n) hs hs2 ⟨hen.env, hen.sc⟩ hhp hle1 hen.defs fun ρ2 w2 he2 hh2 mv2 => ?_
    obtain ⟨r1, r2⟩ := results_ok (fn := fn) (P := P) he2 hh2 (vs := vs) (by rw [g4]; exact hvs)
    obtain ⟨L, x, hlog⟩ := Mv.trans (show s.n ≤ (first s).n from Nat.le_refl _) mv mv2
    unfold leave at h
    cases h
    refine ⟨_, r1, _, rfl, ρ2, rfl, ⟨olds s.n s2.log, ?_, ?_⟩, ?_, rfl, r2, rfl⟩
    · have hw : Ext (olds s.n s2.log) ρ s.n s.heap w ρ2 s2.n s2.heap w2 := by
        have hmem : ∀ b, b < s.n → (b ∈ olds s.n s2.log ↔ b ∈ L) := fun b hbb => by
          rw [olds_mem, hlog b hbb]
          constructor
          · rintro ⟨h | h, -⟩
            · exact h
            · cases h
          · exact fun h => ⟨.inl h, hbb⟩
        refine ⟨x.le, x.size, x.agr, x.nrev, fun r hr hno => x.frame r hr fun b hbl hbn => hno b ((hmem b hbn).2 hbl) hbn, fun b hbl hbn => x.vis b ((hmem b hbn).1 hbl) hbn, fun b hbn y hy => ?_, x.side⟩
        rcases x.new b hbn y hy with h | ⟨b', h1, h2, h3⟩
        · exact .inl h
        · exact .inr ⟨b', (hmem b' h2).2 h1, h2, h3⟩
      refine hw.sub fun b y hy => ?_
      dsimp only at hy
      cases hc : ifB (oneS vs).isFlat (List.isEmpty (olds s.n s2.log)) false with
      | true => rw [hc, ifB_true] at hy; exact (hdrop_get hh2.srt hy).1
      | false => rw [hc, ifB_false] at hy; exact hy
    · rfl
    · dsimp only
      cases hc : ifB (oneS vs).isFlat (List.isEmpty (olds s.n s2.log)) false with
      | true => rw [ifB_true]; exact hh2.sub (hdrop_srt hh2.srt) fun b y hy => (hdrop_get hh2.srt hy).1
      | false => rw [ifB_false]; exact hh2
  rcases hex with rfl | rfl
  · exact hpost
  · exact hpost
theorem exCall_ok (hs : SelfOK P self) (ho : OraOK P ora) : CallerOK P (exCall P ora self) := by
  intro cx f args s v s' h ρ w hh ha hb
  unfold exCall at h
  cases hor : ora f args s.heap with
  | none => rw [hor] at h; exact enter_ok hs h hh ha hb
  | some u =>
    rw [hor] at h
    cases h
    obtain ⟨h1, h2⟩ := ho f args _ _ hor
    refine (h2 ρ _ w hh ha).mono fun y w' ⟨hy, hw⟩ => ⟨ρ, hy, ⟨[], ?_, rfl⟩, ⟨hh.srt, hh.sc, fun b bl hb => (hh.bk b bl hb).keep rfl rfl (fun _ _ => rfl) (hw.block _ (hh.bk b bl hb).lt), hh.inj, hh.glob, hh.big⟩, rfl, h1 _, rfl⟩
    have := Ext.refl ρ s.n s.heap w hh.srt
    exact ⟨this.le, hw.size, this.agr, this.nrev, fun r hr _ => hw.block r hr, this.vis, fun b hb y hy => absurd (hh.srt.lt hy) (by omega), ⟨hw.os, hw.tape, hw.output⟩⟩

/-! ### Code -/
theorem then_eq {r : Option (X × St)} {K : St → Option (X × St)} {x : X} {s' : St} (h : andThen r K = some (x, s')) : (∃ s1, r = some (.normal, s1) ∧ K s1 = some (x, s')) ∨ (r = some (x, s') ∧ ∀ Q : Act → World → Prop, ∀ Q', Exit.then Q Q' x.toE = Q' x.toE) := by
  obtain ⟨⟨y, s1⟩, hr, h⟩ := bindO_eq.1 h
  cases y with
  | normal => exact .inl ⟨s1, hr, h⟩
  | exit id => cases h; exact .inr ⟨hr, fun _ _ => rfl⟩
  | goto l => cases h; exact .inr ⟨hr, fun _ _ => rfl⟩
  | ret => cases h; exact .inr ⟨hr, fun _ _ => rfl⟩
theorem code_ok (hs : SelfOK P self) (ho : OraOK P ora) (hm : P.follows .mixedOrders = true) {c : Code} {x : X} (h : exCode P ora self cx c s = some (x, s')) (hok : Ok cx.N ρ s a w) (hb : cx.base ≤ s.n) {Q : Exit → Act → World → Prop}
    (hq : ∀ ρ' a' w', Ok cx.N ρ' s' a' w' → Mv cx.base ρ s w ρ' s' w' → Q x.toE a' w') : c.wp P Q a w := by
  unfold exCode at h
  split at h
  · cases h; exact wp_skip (hq ρ a w hok (Mv.refl hok.hp.srt))
  · cases h; exact wp_label (hq ρ a w hok (Mv.refl hok.hp.srt))
  · obtain ⟨s1, h1, h⟩ := bindO_eq.1 h
    cases h
    exact wp_region_list (exOps_ok (exCall_ok hs ho) h1 hok hb hq)
  · obtain ⟨s1, h1, h⟩ := bindO_eq.1 h
    cases h
    exact exDraw_ok (exCall_ok hs ho) hm h1 hok hq
  · rename_i c1 c2
    rcases then_eq h with ⟨s1, h1, h2⟩ | ⟨h1, h2⟩
    · exact wp_seq (hs _ _ _ _ _ h1 ρ a w hok hb _ fun ρ1 a1 w1 ok1 mv1 => hs _ _ _ _ _ h2 ρ1 a1 w1 ok1 (Nat.le_trans hb mv1.le) Q fun ρ2 a2 w2 ok2 mv2 => hq ρ2 a2 w2 ok2 (Mv.trans hb mv1 mv2))
    · exact wp_seq (hs _ _ _ _ _ h1 ρ a w hok hb _ fun ρ1 a1 w1 ok1 mv1 => by rw [h2]; exact hq ρ1 a1 w1 ok1 mv1)
  · rename_i p c1 c2
    obtain ⟨v, hv, h⟩ := bindO_eq.1 h
    obtain ⟨c', hc', h⟩ := bindO_eq.1 h
    have e := (opv_ok hok.env hok.hp hv).1
    unfold condC at hc'
    split at hc'
    · rename_i t
      rw [conc_v] at e
      refine wp_cond e ?_
      cases t
      · cases hc'; exact hs _ _ _ _ _ h ρ a w hok hb Q hq
      · cases hc'; exact hs _ _ _ _ _ h ρ a w hok hb Q hq
    · cases hc'
  · rename_i id c1
    obtain ⟨⟨y, s1⟩, h1, h⟩ := bindO_eq.1 h
    refine wp_block (hs _ _ _ _ _ h1 ρ a w hok hb _ fun ρ1 a1 w1 ok1 mv1 => ?_)
    cases y with
    | exit j =>
      obtain h : some (ifB (Nat.beq j id) X.normal (.exit j), s1) = some (x, s') := h
      show if j = id then Q .normal a1 w1 else Q (.exit j) a1 w1
      rcases beq_dec j id with ⟨e, rfl⟩ | ⟨e, hne⟩
      · rw [e] at h; cases h; rw [if_pos rfl]; exact hq ρ1 a1 w1 ok1 mv1
      · rw [e] at h; cases h; rw [if_neg hne]; exact hq ρ1 a1 w1 ok1 mv1
    | normal => cases h; exact hq ρ1 a1 w1 ok1 mv1
    | goto l => cases h; exact hq ρ1 a1 w1 ok1 mv1
    | ret => cases h; exact hq ρ1 a1 w1 ok1 mv1
  · exact wp_of_loop (hs _ _ _ _ _ h ρ a w hok hb Q hq)
  · cases h; exact wp_exit (hq ρ a w hok (Mv.refl hok.hp.srt))
  · exact wp_of_scope (hs _ _ _ _ _ h ρ a w hok hb Q hq)
  · cases h; exact wp_goto (hq ρ a w hok (Mv.refl hok.hp.srt))
  · cases h; exact wp_ret (hq ρ a w hok (Mv.refl hok.hp.srt))
  · cases h
theorem body_ok (hs : SelfOK P self) (ho : OraOK P ora) (hm : P.follows .mixedOrders = true) : SelfOK P (exBody P ora self) := by
  intro cx t s x s' h ρ a w hok hb Q hq
  cases t with
  | code c => exact code_ok hs ho hm h hok hb hq
  | looping c =>
    refine loop_round ?_
    rcases then_eq (show andThen (self cx (.code c) s) (fun s => self cx (.looping c) s) = some (x, s') from h) with ⟨s1, h1, h2⟩ | ⟨h1, h2⟩
    · exact hs _ _ _ _ _ h1 ρ a w hok hb _ fun ρ1 a1 w1 ok1 mv1 => hs _ _ _ _ _ h2 ρ1 a1 w1 ok1 (Nat.le_trans hb mv1.le) Q fun ρ2 a2 w2 ok2 mv2 => hq ρ2 a2 w2 ok2 (Mv.trans hb mv1 mv2)
    · exact hs _ _ _ _ _ h1 ρ a w hok hb _ fun ρ1 a1 w1 ok1 mv1 => by rw [h2]; exact hq ρ1 a1 w1 ok1 mv1
  | inScope c cur =>
    refine scope_piece ?_
    obtain ⟨⟨y, s1⟩, h1, h⟩ := bindO_eq.1 (show bindO (self cx (.code cur) s) (scopeX self cx c) = some (x, s') from h)
    refine hs _ _ _ _ _ h1 ρ a w hok hb _ fun ρ1 a1 w1 ok1 mv1 => ?_
    cases y with
    | goto l =>
      show match findLabel c l with | some rest => ScopeWp P c rest Q a1 w1 | none => Q (.goto l) a1 w1
      obtain h : Option.rec (some (X.goto l, s1)) (fun rest => self cx (.inScope c rest) s1) (findLabel c l) = some (x, s') := h
      cases hf : findLabel c l with
      | none => rw [hf] at h; cases h; exact hq ρ1 a1 w1 ok1 mv1
      | some rest => rw [hf] at h; exact hs _ _ _ _ _ h ρ1 a1 w1 ok1 (Nat.le_trans hb mv1.le) Q fun ρ2 a2 w2 ok2 mv2 => hq ρ2 a2 w2 ok2 (Mv.trans hb mv1 mv2)
    | normal => cases h; exact hq ρ1 a1 w1 ok1 mv1
    | exit id => cases h; exact hq ρ1 a1 w1 ok1 mv1
    | ret => cases h; exact hq ρ1 a1 w1 ok1 mv1
theorem ex_ok (ho : OraOK P ora) (hm : P.follows .mixedOrders = true) : ∀ n, SelfOK P (ex P ora n)
  | 0 => fun _ _ _ _ _ h => (by cases h)
  | n + 1 => body_ok (ex_ok ho hm n) ho hm
/-- A closed call: what the runner answers is what the code answers; nothing that was there before is written. -/
theorem run_ok (ho : OraOK P ora) (hm : P.follows .mixedOrders = true) {n f : Nat} {args : List SV} {v : SV} {H : List Hp} (h : exRun P ora n f args H = some v) {ρ : Va} {w : World} (hh : HpOK ρ 4096 H w) (ha : ∀ x ∈ args, Sc 4096 x) :
    SemVal P ((callFunc f (args.map (SV.conc ρ)).toArray).run P w) fun u w' => ∃ ρ', u = v.conc ρ' ∧ Below w.heap.size w w' := by
  obtain ⟨⟨v', s'⟩, h1, h⟩ := bindO_eq.1 h
  obtain ⟨h2, h⟩ := guardO_eq.1 h
  cases h
  refine (exCall_ok (ex_ok ho hm n) ho ⟨4096, 0⟩ f args ⟨.nil, H, 4096, [], []⟩ _ s' h1 ρ w hh ha (Nat.le_refl _)).mono fun u w' ⟨ρ', hu, eff⟩ => ⟨ρ', hu, ?_⟩
  obtain ⟨L, x, hlog⟩ := eff.ext
  have hnil : s'.log = [] := by
    replace h2 : List.isEmpty s'.log = true := h2
    cases hl : s'.log with
    | nil => rfl
    | cons a b => rw [hl] at h2; cases h2
  refine ⟨x.side.os, x.side.tape, x.side.output, x.size, fun r hr => x.frame r hr fun b hb hbn => ?_⟩
  have : b ∈ olds 4096 L := olds_mem.2 ⟨hb, hbn⟩
  rw [hnil] at hlog
  have h3 : olds 4096 L = [] := by
    have : olds 4096 L ++ [] = [] := hlog.symm
    simpa using this
  rw [h3] at this
  cases this
end
end Go.Ex
