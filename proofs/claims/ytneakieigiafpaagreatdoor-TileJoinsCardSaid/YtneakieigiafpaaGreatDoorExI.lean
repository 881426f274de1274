/- Regions whose order is the text's; loops, scopes; a function's results. -/
import Derived.Test.YtneakieigiafpaaGreatDoorExH
namespace Go.Ex
open Go
variable {P : Program} {cx : Cx} {o : Oper} {s s' : St} {v : SV} {ρ : Va} {a : Act} {w : World}

/-- A frame and a world are as the runner's state says. -/
structure Ok (N : Nat) (ρ : Va) (s : St) (a : Act) (w : World) : Prop where
  env : EnvOK ρ s a
  hp : HpOK ρ s.n s.heap w
  size : N ≤ a.tmps.size
/-- From a state to a later one. -/
def Mv (base : Nat) (ρ : Va) (s : St) (w : World) (ρ' : Va) (s' : St) (w' : World) : Prop := ∃ L, Ext L ρ s.n s.heap w ρ' s'.n s'.heap w' ∧ ∀ b, b < base → (b ∈ s'.log ↔ b ∈ L ∨ b ∈ s.log)
theorem Mv.refl {base : Nat} (hs : Srt s.heap s.n) : Mv base ρ s w ρ s w := ⟨[], Ext.refl _ _ _ _ hs, fun b _ => ⟨.inr, fun h => h.resolve_left (by simp)⟩⟩
theorem Mv.trans {base : Nat} {ρ₀ ρ₁ ρ₂ : Va} {s₀ s₁ s₂ : St} {w₀ w₁ w₂ : World} (hb : base ≤ s₀.n) (h₁ : Mv base ρ₀ s₀ w₀ ρ₁ s₁ w₁) (h₂ : Mv base ρ₁ s₁ w₁ ρ₂ s₂ w₂) : Mv base ρ₀ s₀ w₀ ρ₂ s₂ w₂ := by
  obtain ⟨L₁, e₁, l₁⟩ := h₁
  obtain ⟨L₂, e₂, l₂⟩ := h₂
  refine ⟨L₁ ++ olds s₀.n L₂, e₁.trans e₂ fun b => by rw [List.mem_append, olds_mem], fun b hbb => ?_⟩
  rw [l₂ b hbb, l₁ b hbb, List.mem_append, olds_mem]
  constructor
  · rintro (h | h | h)
    · exact .inl (.inr ⟨h, by omega⟩)
    · exact .inl (.inl h)
    · exact .inr h
  · rintro ((h | ⟨h, -⟩) | h)
    · exact .inr (.inl h)
    · exact .inl h
    · exact .inr (.inr h)
theorem Mv.le {base : Nat} {ρ' : Va} {w' : World} (h : Mv base ρ s w ρ' s' w') : s.n ≤ s'.n := let ⟨_, e, _⟩ := h; e.le
theorem Eff.mv {ρ' : Va} {w' : World} (h : Eff cx s v s' ρ w ρ' w') : Mv cx.base ρ s w ρ' s' w' := by
  obtain ⟨L, e, hl⟩ := h.ext
  refine ⟨L, e, fun b hb => ?_⟩
  rw [hl, List.mem_append, olds_mem]
  constructor
  · rintro (⟨h, -⟩ | h)
    · exact .inl h
    · exact .inr h
  · rintro (h | h)
    · exact .inl ⟨h, hb⟩
    · exact .inr h
theorem EnvOK.later {ρ' : Va} {w' : World} (he : EnvOK ρ s a) (h : Eff cx s v s' ρ w ρ' w') : EnvOK ρ' s' a := by
  obtain ⟨L, e, -⟩ := h.ext
  refine ⟨fun k x hk => ?_, fun k x hk => ?_, ?_⟩
  · rw [h.env] at hk
    rw [he.sc k x hk ρ ρ' e.ag]
    exact he.env k x hk
  · rw [h.env] at hk
    exact (he.sc k x hk).mono e.le
  · rw [h.defs]; exact he.defs.move e.le e.ag
theorem put_ok {d : Option Tmp} (he : EnvOK ρ s a) (hv : Sc s.n v) (hN : cx.N ≤ a.tmps.size) (h : putSt cx d v s = some s') :
    EnvOK ρ s' (a.put d (v.conc ρ)) ∧ s'.heap = s.heap ∧ s'.n = s.n ∧ s'.log = s.log ∧ s'.defs = s.defs ∧ (a.put d (v.conc ρ)).tmps.size = a.tmps.size := by
  cases d with
  | none => cases h; exact ⟨he, rfl, rfl, rfl, rfl, rfl⟩
  | some k =>
    obtain ⟨env, heap, n, log, defs⟩ := s
    obtain ⟨h1, h⟩ := guardO_eq.1 (show guardO (Nat.ble (Nat.succ k) cx.N) ((env.put k v).strict fun env => some (⟨env, heap, n, log, defs⟩ : St)) = some s' from h)
    rw [T.strict_eq] at h
    cases h
    have hk : k < a.tmps.size := Nat.lt_of_lt_of_le (Nat.le_of_ble_eq_true h1) hN
    refine ⟨⟨fun j x hj => ?_, fun j x hj => ?_, he.defs⟩, rfl, rfl, rfl, rfl, by simp [Act.put]⟩
    · rcases T.put_get hj with ⟨rfl, rfl⟩ | hj'
      · simp [Act.put, hk]
      · by_cases hjk : k = j
        · subst hjk
          -- the slot was just written: what it holds is the new value
          have := he.env k x hj'
          simp only [Act.put]
          have he2 := T.put_eq (t := env) (k := k) (x := v)
          rw [show (env.put k v).get k = some v from he2] at hj
          cases hj
          simp [hk]
        · simp only [Act.put, Array.getElem?_setIfInBounds_ne hjk]
          exact he.env j x hj'
    · rcases T.put_get hj with ⟨rfl, rfl⟩ | hj
      · exact hv
      · exact he.sc j x hj
theorem wanted_ok {ops : Array Oper} {t : Bool} (he : EnvOK ρ s a) (h : wantedS ops o s.env = some t) : Region.wanted o (yielded ops a.tmps) = t := by
  unfold wantedS at h
  unfold Region.wanted
  cases hg : o.guard with
  | none => rw [hg] at h; cases h; rfl
  | some g =>
    rw [hg] at h
    obtain ⟨d, hd, h⟩ := bindO_eq.1 (show (bindO (bindO ops[g.1]? fun o => o.dst) fun d => bindO (s.env.get d) fun v => match v with | .v (.bool b) => some (b == g.2) | .v _ => some false | _ => none) = some t from h)
    obtain ⟨p, hp, hd2⟩ := bindO_eq.1 hd
    obtain ⟨x, hx, h⟩ := bindO_eq.1 h
    have hx' := he.env d x hx
    obtain ⟨j, want⟩ := g
    have hy : yielded ops a.tmps j = match x.conc ρ with | .bool b => some b | _ => none := by
      unfold yielded
      rw [hp, Option.bind_some, hd2, Option.bind_some, hx']
      cases x.conc ρ <;> rfl
    simp only [hy]
    split at h
    · cases h; rw [conc_v]; simp
    · rename_i y hy2
      cases h
      rw [conc_v]
      cases y <;> first | rfl | exact absurd rfl (hy2 _)
    · cases h
/-- The blocks for rounds' deferred calls, among a frame's deferred calls. -/
def colsOf : List (Nat × List SV) → List (Nat × List SV)
  | [] => []
  | d :: l => if d.1 = colTag then d :: colsOf l else colsOf l
theorem colsOf_cons {f : Nat} (h : f ≠ colTag) (as : List SV) (l : List (Nat × List SV)) : colsOf ((f, as) :: l) = colsOf l := by simp [colsOf, h]
theorem defer_ok {c : Call} (ho : o.op = .defer c) (he : EnvOK ρ s a) (hh : HpOK ρ s.n s.heap w) (h : deferS c s = some (v, s')) {next : Act → World → Prop} {Q : Exit → Act → World → Prop}
    (hn : ∀ d : Deferred, v = .v undef → EnvOK ρ s' { a with defers := d :: a.defers } → s'.n = s.n → s'.heap = s.heap → s'.log = s.log → colsOf s'.defs = colsOf s.defs → next (({ a with defers := d :: a.defers } : Act).put o.dst undef) w) : o.wp P a w next Q := by
  obtain ⟨args, hargs, h'⟩ := bindO_eq.1 h
  clear h
  obtain ⟨ea, sa⟩ := opvs_ok he hh hargs
  have eargs : c.args.map a.eval = (args.map (SV.conc ρ)).toArray := by rw [← ea]; exact Array.ext' (by simp)
  split at h'
  · rename_i f hcf
    obtain ⟨g, p, q, hg, h⟩ := fnS_eq h'
    obtain ⟨htag, h⟩ := guardO_eq.1 h
    replace htag : g ≠ colTag := fun e => by rw [e, Nat.beq_refl] at htag; cases htag
    obtain ⟨eg, sg⟩ := opv_ok he hh hg
    rw [conc_fn] at eg
    obtain ⟨sp, sq⟩ := sg.fn_inv
    obtain ⟨env, heap, n, log, defs⟩ := s
    cases h
    unfold Oper.wp
    have e : (execOp a.eval o).run P w = .ok (.defer { target := .fn (.func g) (q.map (SV.conc ρ)).toArray, args := (p.map (SV.conc ρ)).toArray ++ (args.map (SV.conc ρ)).toArray }) w := by
      simp only [execOp, ho, resolve, hcf, eargs, eg]
      rfl
    rw [e, Oper.upon_defer]
    refine hn _ rfl ⟨he.env, he.sc, ⟨.inl ⟨htag, _, rfl, ?_, fun x hx => ?_⟩, he.defs⟩⟩ rfl rfl rfl (colsOf_cons htag _ _)
    · apply Array.ext'
      simp
    · rcases List.mem_append.1 hx with hx | hx
      · exact sp x hx
      · rcases List.mem_append.1 hx with hx | hx
        · exact sa x hx
        · exact sq x hx
  · cases h'
theorem step_ok {call : Caller} (hc : CallerOK P call) {ops : Array Oper} (h : stepOp P call cx ops o s = some s') (hok : Ok cx.N ρ s a w) (hbase : cx.base ≤ s.n) {K : Act → World → Prop} {Q : Exit → Act → World → Prop}
    (hk : ∀ ρ' a' w', Ok cx.N ρ' s' a' w' → colsOf s'.defs = colsOf s.defs → Mv cx.base ρ s w ρ' s' w' → K a' w') : if Region.wanted o (yielded ops a.tmps) then o.wp P a w K Q else K (a.put o.dst undef) w := by
  obtain ⟨t, ht, h⟩ := bindO_eq.1 h
  rw [wanted_ok hok.env ht]
  cases t with
  | false =>
    have h' : putSt cx o.dst (.v undef) s = some s' := h
    obtain ⟨h1, h2, h3, h4, h5, h6⟩ := put_ok hok.env (Sc.v s.n undef) hok.size h'
    rw [conc_v] at h1 h6
    refine hk ρ _ w ⟨h1, by rw [h2, h3]; exact hok.hp, by rw [h6]; exact hok.size⟩ (by rw [h5]) ⟨[], ?_, fun b _ => by rw [h4]; simp⟩
    rw [h2, h3]; exact Ext.refl _ _ _ _ hok.hp.srt
  | true =>
    obtain ⟨r, hr, h'⟩ := bindO_eq.1 (show (bindO (exOp P call cx o s) fun r => putSt cx o.dst r.1 r.2) = some s' from h)
    obtain ⟨v, s1⟩ := r
    show o.wp P a w K Q
    cases hd : isDefer o.op with
    | false =>
      have hv := exOp_ok hc hd hr ρ a w hok.env hok.hp hbase
      refine hv.wp fun u w' hu => ?_
      obtain ⟨ρ', rfl, eff⟩ := hu
      obtain ⟨h1, h2, h3, h4, h5, h6⟩ := put_ok (hok.env.later eff) eff.sc hok.size h'
      refine hk ρ' _ w' ⟨h1, by rw [h2, h3]; exact eff.hp, by rw [h6]; exact hok.size⟩ (by rw [h5, eff.defs]) ?_
      obtain ⟨L, e, hl⟩ := eff.mv
      exact ⟨L, by rw [h2, h3]; exact e, by rw [h4]; exact hl⟩
    | true =>
      obtain ⟨c, hoc⟩ : ∃ c, o.op = .defer c := by
        unfold isDefer at hd
        split at hd
        · rename_i c he; exact ⟨c, he⟩
        · cases hd
      have hr' : deferS c s = some (v, s1) := by
        unfold exOp comp at hr
        rw [hoc] at hr
        exact hr
      refine defer_ok hoc hok.env hok.hp hr' fun d hv henv hn hheap hlog hcol => ?_
      subst hv
      have hsc : Sc s1.n (.v undef) := Sc.v _ _
      obtain ⟨h1, h2, h3, h4, h5, h6⟩ := put_ok henv hsc hok.size h'
      rw [conc_v] at h1 h6
      refine hk ρ _ w ⟨h1, by rw [h2, h3, hn, hheap]; exact hok.hp, by rw [h6]; exact hok.size⟩ (by rw [h5, hcol]) ⟨[], ?_, fun b _ => by rw [h4, hlog]; simp⟩
      rw [h2, h3, hn, hheap]; exact Ext.refl _ _ _ _ hok.hp.srt
theorem exOps_ok {call : Caller} (hc : CallerOK P call) {ops : Array Oper} {Q : Exit → Act → World → Prop} : ∀ {l : List Oper} {s s' : St} {ρ : Va} {a : Act} {w : World}, exOps P call cx ops l s = some s' → Ok cx.N ρ s a w → cx.base ≤ s.n →
    (∀ ρ' a' w', Ok cx.N ρ' s' a' w' → colsOf s'.defs = colsOf s.defs → Mv cx.base ρ s w ρ' s' w' → Q .normal a' w') → wpList P ops Q l a w
  | [], s, s', ρ, a, w, h, hok, _, hq => by
    cases h
    exact wpList_nil (hq ρ a w hok rfl (Mv.refl hok.hp.srt))
  | o :: l, s, s', ρ, a, w, h, hok, hb, hq => by
    obtain ⟨s1, h1, h2⟩ := bindO_eq.1 (show (bindO (stepOp P call cx ops o s) (exOps P call cx ops l)) = some s' from h)
    refine wpList_step fun K hK => step_ok hc h1 hok hb fun ρ1 a1 w1 ok1 hc1 mv1 => hK _ _ ?_
    exact exOps_ok hc h2 ok1 (Nat.le_trans hb mv1.le) fun ρ2 a2 w2 ok2 hc2 mv2 => hq ρ2 a2 w2 ok2 (hc2.trans hc1) (Mv.trans hb mv1 mv2)

/-! ### Loops and scopes -/
def LoopWp (P : Program) (c : Code) (Q : Exit → Act → World → Prop) (a : Act) (w : World) : Prop := ∀ (b : Frame) (k : List Item) (cs : List Frame), ∃ e a' w', Q e a' w' ∧ Arrives P (lone (b.at a (.code c :: .inLoop c :: k)) cs w) b k cs e a' w'
theorem wp_of_loop {c : Code} {Q : Exit → Act → World → Prop} (h : LoopWp P c Q a w) : (Code.loop c).wp P Q a w := fun b k cs => let ⟨e, a', w', hq, harr⟩ := h b k cs; ⟨e, a', w', hq, .of_steps (.one step_loop) harr⟩
theorem loop_round {c : Code} {Q : Exit → Act → World → Prop} (h : c.wp P (Exit.then (LoopWp P c Q) Q) a w) : LoopWp P c Q a w := by
  intro b k cs
  obtain ⟨e, a₁, w₁, hq, harr⟩ := h b (.inLoop c :: k) cs
  cases e with
  | normal =>
    obtain ⟨e₂, a₂, w₂, hq₂, harr₂⟩ := hq b k cs
    exact ⟨e₂, a₂, w₂, hq₂, .of_steps (Steps.trans harr (.one step_inLoop)) harr₂⟩
  | exit id => exact ⟨_, a₁, w₁, hq, .pass (x := .inLoop c) rfl (fun _ _ => .inl (by simp)) harr⟩
  | goto l => exact ⟨_, a₁, w₁, hq, .pass (x := .inLoop c) rfl (fun _ _ => .inl (by simp)) harr⟩
  | ret => exact ⟨_, a₁, w₁, hq, .pass (x := .inLoop c) rfl (fun _ _ => .inl (by simp)) harr⟩
  | panic ch => exact ⟨_, a₁, w₁, hq, .pass (x := .inLoop c) rfl (fun _ _ => .inl (by simp)) harr⟩
  | outgrown => exact ⟨_, a₁, w₁, hq, .pass (x := .inLoop c) rfl (fun _ _ => .inl (by simp)) harr⟩
def ScopeWp (P : Program) (c cur : Code) (Q : Exit → Act → World → Prop) (a : Act) (w : World) : Prop := ∀ (b : Frame) (k : List Item) (cs : List Frame), ∃ e a' w', Q e a' w' ∧ Arrives P (lone (b.at a (.code cur :: .inScope c :: k)) cs w) b k cs e a' w'
theorem wp_of_scope {c : Code} {Q : Exit → Act → World → Prop} (h : ScopeWp P c c Q a w) : (Code.scope c).wp P Q a w := fun b k cs => let ⟨e, a', w', hq, harr⟩ := h b k cs; ⟨e, a', w', hq, .of_steps (.one step_scope) harr⟩
/-- What is asked behind a piece of a scope. -/
def scopeQ (P : Program) (c : Code) (Q : Exit → Act → World → Prop) : Exit → Act → World → Prop
  | .goto l, a, w => match findLabel c l with
    | some rest => ScopeWp P c rest Q a w
    | none => Q (.goto l) a w
  | e, a, w => Q e a w
theorem scope_piece {c cur : Code} {Q : Exit → Act → World → Prop} (h : cur.wp P (scopeQ P c Q) a w) : ScopeWp P c cur Q a w := by
  intro b k cs
  obtain ⟨e, a₁, w₁, hq, harr⟩ := h b (.inScope c :: k) cs
  cases e with
  | normal => exact ⟨.normal, a₁, w₁, hq, Steps.trans harr (.one step_inScope)⟩
  | exit id => exact ⟨.exit id, a₁, w₁, hq, fun k' hk => harr k' (by simp [exitTo, hk])⟩
  | goto l =>
    replace hq : match findLabel c l with | some rest => ScopeWp P c rest Q a₁ w₁ | none => Q (.goto l) a₁ w₁ := hq
    cases hf : findLabel c l with
    | some rest =>
      rw [hf] at hq
      obtain ⟨e₂, a₂, w₂, hq₂, harr₂⟩ := hq b k cs
      exact ⟨e₂, a₂, w₂, hq₂, .of_steps (harr _ (by simp [gotoIn, hf])) harr₂⟩
    | none =>
      rw [hf] at hq
      exact ⟨.goto l, a₁, w₁, hq, fun k' hk => harr k' (by simp [gotoIn, hf, hk])⟩
  | ret => exact ⟨_, a₁, w₁, hq, harr⟩
  | panic ch => exact ⟨_, a₁, w₁, hq, harr⟩
  | outgrown => exact ⟨_, a₁, w₁, hq, harr⟩
end Go.Ex
