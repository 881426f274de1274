/- One operation of the runner, whichever it is. -/
import Derived.Test.YtneakieigiafpaaGreatDoorExG
namespace Go.Ex
open Go
variable {P : Program} {cx : Cx} {o : Oper} {s s' : St} {v : SV} {ρ : Va} {a : Act} {w : World}

/-- What comes of an operation's meaning, a call included. -/
def SemVal (P : Program) (x : Result Next) (R : Value → World → Prop) : Prop := match x with
  | .ok (.value u) w' => R u w'
  | .ok .skip w' => R undef w'
  | .ok (.enter f args) w' => Calls P f args w' fun e w'' => ∃ u, e = .returned u ∧ R u w''
  | _ => False
theorem SemVal.mono {x : Result Next} {R R' : Value → World → Prop} (h : SemVal P x R) (hr : ∀ u w', R u w' → R' u w') : SemVal P x R' := by
  unfold SemVal at *
  split
  · exact hr _ _ h
  · exact hr _ _ h
  · exact Calls.mono h fun e w'' ⟨u, h1, h2⟩ => ⟨u, h1, hr _ _ h2⟩
  · rename_i h1 h2 h3
    split at h <;> simp_all
theorem SemVal.wp {R : Value → World → Prop} (h : SemVal P ((execOp a.eval o).run P w) R) {next : Act → World → Prop} {Q : Exit → Act → World → Prop} (hn : ∀ u w', R u w' → next (a.put o.dst u) w') : o.wp P a w next Q := by
  unfold Oper.wp
  generalize (execOp a.eval o).run P w = r at h
  unfold SemVal at h
  split at h
  · exact hn _ _ h
  · exact hn _ _ h
  · rw [Oper.upon_enter]
    exact Calls.mono h fun e w'' ⟨u, h1, h2⟩ => by subst h1; exact hn _ _ h2
  · exact h.elim
/-- What a caller says of its calls. -/
def CallerOK (P : Program) (call : Caller) : Prop := ∀ cx f args s v s', call cx f args s = some (v, s') → ∀ ρ w, HpOK ρ s.n s.heap w → (∀ x ∈ args, Sc s.n x) → cx.base ≤ s.n →
  SemVal P ((callFunc f (args.map (SV.conc ρ)).toArray).run P w) fun u w' => ∃ ρ', u = v.conc ρ' ∧ Eff cx s v s' ρ w ρ' w'
/-- An operation does so. -/
def OpVal (P : Program) (cx : Cx) (o : Oper) (s : St) (v : SV) (s' : St) : Prop := ∀ ρ a w, EnvOK ρ s a → HpOK ρ s.n s.heap w → cx.base ≤ s.n →
  SemVal P ((execOp a.eval o).run P w) fun u w' => ∃ ρ', u = v.conc ρ' ∧ Eff cx s v s' ρ w ρ' w'
theorem OpVal.pure (h : ∀ ρ a w, EnvOK ρ s a → HpOK ρ s.n s.heap w → (execOp a.eval o).run P w = .ok (.value (v.conc ρ)) w ∧ Sc s.n v) : OpVal P cx o s v s := by
  intro ρ a w he hh _
  obtain ⟨h1, h2⟩ := h ρ a w he hh
  rw [h1]
  exact ⟨ρ, rfl, ⟨[], Ext.refl _ _ _ _ hh.srt, rfl⟩, hh, rfl, h2, rfl⟩
theorem OpVal.of (h : ∀ ρ a w, EnvOK ρ s a → HpOK ρ s.n s.heap w → ∃ ρ' w', (execOp a.eval o).run P w = .ok (.value (v.conc ρ')) w' ∧ Eff cx s v s' ρ w ρ' w') : OpVal P cx o s v s' := by
  intro ρ a w he hh _
  obtain ⟨ρ', w', h1, h2⟩ := h ρ a w he hh
  rw [h1]
  exact ⟨ρ', rfl, h2⟩
theorem fnS_eq {env : T} {f : Operand} {α : Type} {K : Nat → List SV → List SV → Option α} {r : α} (h : fnS env f K = some r) : ∃ g a b, opv env f = some (.fn g a b) ∧ K g a b = some r := by
  obtain ⟨u, hu, h⟩ := bindO_eq.1 h
  split at h
  · exact ⟨_, _, _, hu, h⟩
  · cases h
theorem call_ok {call : Caller} (hc : CallerOK P call) {c : Call} (ho : o.op = .call c) (h : callS P call cx c o.type s = some (v, s')) : OpVal P cx o s v s' := by
  intro ρ a w he hh hbase
  obtain ⟨args, hargs, h'⟩ := bindO_eq.1 h
  clear h
  obtain ⟨ea, sa⟩ := opvs_ok he hh hargs
  have eargs : c.args.map a.eval = (args.map (SV.conc ρ)).toArray := by rw [← ea]; exact Array.ext' (by simp)
  obtain ⟨dst, op, type, pos, after, guard⟩ := o
  dsimp only at ho h'
  subst ho
  split at h'
  · rename_i b hcb
    obtain ⟨ρ', w', h1, h2⟩ := builtin_ok (P := P) hh sa h'
    have : (execOp a.eval ⟨dst, .call c, type, pos, after, guard⟩) = builtin b c.argTypes type (consts c.args) (args.map (SV.conc ρ)).toArray := by
      simp only [execOp, resolve, hcb, eargs]
      rfl
    rw [this, h1]
    exact ⟨ρ', rfl, h2⟩
  · rename_i f hcf
    obtain ⟨g, p, q, hg, h⟩ := fnS_eq h'
    obtain ⟨eg, sg⟩ := opv_ok he hh hg
    rw [conc_fn] at eg
    obtain ⟨sp, sq⟩ := sg.fn_inv
    have hs : ∀ x ∈ p ++ (args ++ q), Sc s.n x := fun x hx => by
      rcases List.mem_append.1 hx with hx | hx
      · exact sp x hx
      · rcases List.mem_append.1 hx with hx | hx
        · exact sa x hx
        · exact sq x hx
    have := hc cx g _ s v s' h ρ w hh hs hbase
    have e : (execOp a.eval ⟨dst, .call c, type, pos, after, guard⟩) = callFunc g ((p ++ (args ++ q)).map (SV.conc ρ)).toArray := by
      simp only [execOp, resolve, hcf, eargs, eg]
      show callFunc g (((p.map (SV.conc ρ)).toArray ++ (args.map (SV.conc ρ)).toArray) ++ (q.map (SV.conc ρ)).toArray) = _
      congr 1
      apply Array.ext'
      simp
    rw [e]
    exact this
  · rename_i r name hcr
    obtain ⟨x, hx, h1⟩ := bindO_eq.1 h'
    obtain ⟨m, hm, h2⟩ := bindO_eq.1 h1
    clear h1 h'
    have ex := (opv_ok he hh hx).1
    unfold methodOf at hm
    split at hm
    · rename_i t u
      have hmr := runP_eq hm w
      have hs : ∀ y ∈ SV.v m.2 :: args, Sc s.n y := fun y hy => by
        rcases List.mem_cons.1 hy with rfl | hy
        · exact Sc.v _ _
        · exact sa y hy
      have := hc cx m.1 _ s v s' h2 ρ w hh hs hbase
      have e : (execOp a.eval ⟨dst, .call c, type, pos, after, guard⟩).run P w = (callFunc m.1 ((SV.v m.2 :: args).map (SV.conc ρ)).toArray).run P w := by
        rw [conc_v] at ex
        have e2 : (#[Value.iface t u] ++ (args.map (SV.conc ρ)).toArray).extract 1 (#[Value.iface t u] ++ (args.map (SV.conc ρ)).toArray).size = (args.map (SV.conc ρ)).toArray := by
          apply Array.ext'
          simp
          exact List.take_of_length_le (by simp)
        have e3 : (#[m.2] ++ (args.map (SV.conc ρ)).toArray) = ((SV.v m.2 :: args).map (SV.conc ρ)).toArray := by
          apply Array.ext'
          simp [conc_v]
        have e4 : execOp a.eval ⟨dst, .call c, type, pos, after, guard⟩ = callMethod (.iface t u) name ((#[Value.iface t u] ++ (args.map (SV.conc ρ)).toArray).extract 1 (#[Value.iface t u] ++ (args.map (SV.conc ρ)).toArray).size) := by
          have e0 : (#[Value.iface t u] ++ (args.map (SV.conc ρ)).toArray)[0]? = some (Value.iface t u) := by simp
          simp only [execOp, resolve, hcr, eargs, ex, pure_bind]
          unfold invoke
          simp only [e0]
        rw [e4, e2, ← e3]
        have e5 : callMethod (.iface t u) name (args.map (SV.conc ρ)).toArray = (do let m ← (do method ((← program).types.size + Made.depth) t u name); callFunc m.1 (#[m.2] ++ (args.map (SV.conc ρ)).toArray)) := by
          unfold callMethod
          simp
        rw [e5, Sem.run_bind, hmr, Result.andThen_ok]
      rw [e]
      exact this
    · cases hm
theorem exOp_ok {call : Caller} (hc : CallerOK P call) (hd : isDefer o.op = false) (h : exOp P call cx o s = some (v, s')) : OpVal P cx o s v s' := by
  have hcall : ∀ c, o.op = .call c → OpVal P cx o s v s' := fun c ho => by
    refine call_ok hc ho ?_
    have : exOp P call cx o s = callS P call cx c o.type s := by unfold exOp comp; rw [ho]; rfl
    rw [← this]; exact h
  obtain ⟨dst, op, type, pos, after, guard⟩ := o
  cases op
  case call c => exact hcall c rfl
  case defer c => cases hd
  case move x =>
    obtain ⟨h1, rfl⟩ := same_eq (show same s (opv s.env x) = some (v, s') from h)
    exact .pure fun ρ a w he hh => ⟨by rw [← (opv_ok he hh h1).1]; rfl, (opv_ok he hh h1).2⟩
  case assign x =>
    obtain ⟨h1, rfl⟩ := same_eq (show same s (opv s.env x) = some (v, s') from h)
    exact .pure fun ρ a w he hh => ⟨by rw [← (opv_ok he hh h1).1]; rfl, (opv_ok he hh h1).2⟩
  case pick c x y =>
    obtain ⟨h1, rfl⟩ := same_eq (show same s (pickS s.env c x y) = some (v, s') from h)
    exact .pure fun ρ a w he hh => pick_ok he hh h1
  case alloc t => exact .of fun ρ a w he hh => let ⟨ρ', w', h1, h2⟩ := allocate_ok hh (show _ = some (v, s') from h); ⟨ρ', w', exec_v h1, h2⟩
  case box t x => exact .of fun ρ a w he hh => let ⟨ρ', w', h1, h2⟩ := box_ok he hh (show _ = some (v, s') from h); ⟨ρ', w', exec_v h1, h2⟩
  case build t ps =>
    obtain ⟨h1, rfl⟩ := same_eq (show same s (buildS P s t ps) = some (v, s') from h)
    exact .pure fun ρ a w he hh => let ⟨h2, h3⟩ := build_ok he hh h1; ⟨exec_v h2, h3⟩
  case buildSlice t n ps => exact .of fun ρ a w he hh => let ⟨ρ', w', h1, h2⟩ := buildRow_ok he hh (show buildRow P s t n ps = some (v, s') from h); ⟨ρ', w', exec_v h1, h2⟩
  case load t x =>
    obtain ⟨h1, rfl⟩ := same_eq (show same s (bindO (opv s.env x) fun p => loadS P s.heap t p) = some (v, s') from h)
    exact .pure fun ρ a w he hh => let ⟨h2, h3⟩ := load_ok he hh h1; ⟨exec_v h2, h3⟩
  case store t p x =>
    intro ρ a w he hh _
    obtain ⟨w', h1, rfl, h3⟩ := store_ok he hh (show storeOp P cx s t p x = some (v, s') from h)
    have : (execOp a.eval ⟨dst, .store t p x, type, pos, after, guard⟩).run P w = .ok .skip w' := by
      show ((do Instr.storeAt t (a.eval p) (a.eval x); pure Next.skip) : Sem Next).run P w = _
      simp [h1]
    rw [this]
    exact ⟨ρ, (conc_v _ _).symm, h3⟩
  case nilCheck x =>
    obtain ⟨h1, rfl⟩ := same_eq (show same s (nilS s.env x) = some (v, s') from h)
    exact .pure fun ρ a w he hh => nil_ok he hh rfl h1
  case binOp op t x y ty =>
    obtain ⟨h1, rfl⟩ := same_eq (show same s (bindO (opv s.env x) fun a => bindO (opv s.env y) fun b => binS P op t x y a b) = some (v, s') from h)
    exact .pure fun ρ a w he hh => let ⟨h2, h3⟩ := bin_ok he hh h1; ⟨exec_v h2, h3⟩
  case unOp op t x =>
    obtain ⟨h1, rfl⟩ := same_eq (show same s (unS P s.env op x) = some (v, s') from h)
    exact .pure fun ρ a w he hh => let ⟨h2, h3⟩ := un_ok he hh h1; ⟨exec_v h2, h3⟩
  case convert src dst x =>
    obtain ⟨u, hu, h1⟩ := bindO_eq.1 (show (bindO (opv s.env x) fun v => convS P cx src dst v s) = some (v, s') from h)
    exact .of fun ρ a w he hh => let ⟨ρ', w', h2, h3⟩ := conv_ok hh (opv_ok he hh hu).2 h1; ⟨ρ', w', exec_v (by rw [(opv_ok he hh hu).1]; exact h2), h3⟩
  case makeFunc fn x y =>
    obtain ⟨h1, rfl⟩ := same_eq (show same s (funcS s.env fn x y) = some (v, s') from h)
    exact .pure fun ρ a w he hh => let ⟨h2, h3⟩ := func_ok he hh h1; ⟨exec_v h2, h3⟩
  case makeSlice t l c => exact .of fun ρ a w he hh => let ⟨ρ', w', h1, h2⟩ := makeRow_ok he hh (show makeRow P s t l c = some (v, s') from h); ⟨ρ', w', exec_v h1, h2⟩
  case slice t x lo hi mx =>
    obtain ⟨h1, rfl⟩ := same_eq (show same s (sliceOp P s.heap s.env t x lo hi mx) = some (v, s') from h)
    exact .pure fun ρ a w he hh => let ⟨h2, h3⟩ := slice_ok he hh h1; ⟨exec_v h2, h3⟩
  case fieldAddr t x f =>
    obtain ⟨h1, rfl⟩ := same_eq (show same s (fieldAddrS P s.env t x f) = some (v, s') from h)
    exact .pure fun ρ a w he hh => let ⟨h2, h3⟩ := fieldAddr_ok he hh h1; ⟨exec_v h2, h3⟩
  case field t x f =>
    obtain ⟨h1, rfl⟩ := same_eq (show same s (fieldS P s.env t x f) = some (v, s') from h)
    exact .pure fun ρ a w he hh => let ⟨h2, h3⟩ := field_ok he hh h1; ⟨exec_v h2, h3⟩
  case indexAddr t x i =>
    obtain ⟨h1, rfl⟩ := same_eq (show same s (indexAddrS P s.env t x i) = some (v, s') from h)
    exact .pure fun ρ a w he hh => let ⟨h2, h3⟩ := indexAddr_ok he hh h1; ⟨exec_v h2, h3⟩
  case index t x i =>
    obtain ⟨h1, rfl⟩ := same_eq (show same s (indexS P s.env t x i) = some (v, s') from h)
    exact .pure fun ρ a w he hh => let ⟨h2, h3⟩ := index_ok he hh h1; ⟨exec_v h2, h3⟩
  case makeInterface t x =>
    obtain ⟨h1, rfl⟩ := same_eq (show same s (bindO (opv s.env x) fun v => bindO v.flat fun u => pureOp P (Instr.makeInterface t u)) = some (v, s') from h)
    obtain ⟨u, hu, h1⟩ := bindO_eq.1 h1
    obtain ⟨y, hy, h1⟩ := bindO_eq.1 h1
    obtain ⟨z, rfl, hz⟩ := pureOp_eq h1
    exact .pure fun ρ a w he hh => ⟨exec_v (by rw [(opv_ok he hh hu).1, flat_conc hy ρ, conc_v]; exact hz w), Sc.v _ _⟩
  case extract t i =>
    obtain ⟨h1, rfl⟩ := same_eq (show same s (extractS s.env t i) = some (v, s') from h)
    exact .pure fun ρ a w he hh => let ⟨h2, h3⟩ := extract_ok he hh h1; ⟨exec_v h2, h3⟩
  all_goals cases h
end Go.Ex
