/- The runner's operations that look at memory at most: they do what the model's do. -/
import Derived.Test.YtneakieigiafpaaGreatDoorExC
namespace Go.Ex
open Go

theorem exec_v {P : Program} {s : Sem Value} {v : Value} {w w' : World} (h : s.run P w = .ok v w') : ((do pure (Next.value (← s))) : Sem Next).run P w = .ok (.value v) w' := by simp [h]
variable {P : Program} {cx : Cx} {o : Oper} {s s' : St} {v : SV} {ρ : Va} {a : Act} {w : World}

theorem ptrOf_eq {α : Type} {p : SV} {f : Nat → Nat → Option α} {r : α} (h : ptrOf p f = some r) : ∃ b off, p = .ptr b off ∧ f b off = some r := by
  unfold ptrOf at h
  split at h
  · exact ⟨_, _, rfl, h⟩
  · cases h
theorem pick_ok (he : EnvOK ρ s a) (hh : HpOK ρ s.n s.heap w) {c x y : Operand} (h : pickS s.env c x y = some v) :
    ((do pure (Next.value (if ← asBool (a.eval c) then a.eval x else a.eval y))) : Sem Next).run P w = .ok (.value (v.conc ρ)) w ∧ Sc s.n v := by
  obtain ⟨u, hc, h⟩ := bindO_eq.1 h
  split at h
  · rename_i t
    have hb : a.eval c = .bool t := (opv_ok he hh hc).1.trans (conc_v _ _)
    rw [hb]
    cases t with
    | true => have := opv_ok he hh (show opv s.env x = some v from h); simp [asBool, this.1, this.2]
    | false => have := opv_ok he hh (show opv s.env y = some v from h); simp [asBool, this.1, this.2]
  · cases h
theorem load_ok (he : EnvOK ρ s a) (hh : HpOK ρ s.n s.heap w) {t : TypeId} {x : Operand} (h : (bindO (opv s.env x) fun p => loadS P s.heap t p) = some v) :
    (Instr.loadAt t (a.eval x)).run P w = .ok (v.conc ρ) w ∧ Sc s.n v := by
  obtain ⟨p, hp, h⟩ := bindO_eq.1 h
  have e := (opv_ok he hh hp).1
  cases p <;> try (cases h; done)
  rename_i b off
  obtain ⟨bl, hb, h⟩ := bindO_eq.1 (show bindO (hget s.heap b) (fun bl => partS P t bl.cells off) = some v from h)
  rw [conc_ptr] at e
  rw [e]
  exact ⟨by simp [Instr.loadAt, Instr.sureAddr, loadVar_ok (hh.bk b bl hb) h], partS_sc (hh.sc b bl hb) h⟩
theorem nil_ok (he : EnvOK ρ s a) (hh : HpOK ρ s.n s.heap w) {x : Operand} (ho : o.op = .nilCheck x) (h : nilS s.env x = some v) :
    (execOp a.eval o).run P w = .ok (.value (v.conc ρ)) w ∧ Sc s.n v := by
  obtain ⟨u, hu, h⟩ := bindO_eq.1 h
  obtain ⟨h1, h2⟩ := guardO_eq.1 h
  cases h2
  obtain ⟨e, hs⟩ := opv_ok he hh hu
  refine ⟨?_, hs⟩
  unfold execOp
  simp only [ho, e]
  cases v with
  | v x => cases h1
  | ptr b off => rw [conc_ptr]; rfl
  | sl b off n c => cases c <;> simp only [conc_ex, conc_un] <;> rfl
  | fn f a c => rw [conc_fn]; rfl
  | agg cs => cases h1
  | tup cs => cases h1
theorem un_ok (he : EnvOK ρ s a) (hh : HpOK ρ s.n s.heap w) {op : UnOp} {x : Operand} (h : unS P s.env op x = some v) : (Op.unary op (a.eval x)).run P w = .ok (v.conc ρ) w ∧ Sc s.n v := by
  obtain ⟨u, hu, h⟩ := bindO_eq.1 h
  obtain ⟨y, hy, h⟩ := bindO_eq.1 h
  obtain ⟨r, rfl, hr⟩ := pureOp_eq h
  rw [(opv_ok he hh hu).1, flat_conc hy ρ, conc_v]
  exact ⟨hr w, Sc.v _ _⟩
theorem func_ok (he : EnvOK ρ s a) (hh : HpOK ρ s.n s.heap w) {fn : Fn} {x y : Array Operand} (h : funcS s.env fn x y = some v) : (Instr.makeFunc fn (x.map a.eval) (y.map a.eval)).run P w = .ok (v.conc ρ) w ∧ Sc s.n v := by
  cases fn <;> try (cases h; done)
  rename_i f
  obtain ⟨as, h1, h⟩ := bindO_eq.1 (show bindO (opvs s.env x.toList) (fun a => bindO (opvs s.env y.toList) fun b => some (SV.fn f a b)) = some v from h)
  obtain ⟨bs, h2, h⟩ := bindO_eq.1 h
  cases h
  obtain ⟨e1, s1⟩ := opvs_ok he hh h1
  obtain ⟨e2, s2⟩ := opvs_ok he hh h2
  refine ⟨?_, Sc.fn s1 s2⟩
  rw [conc_fn, ← e1, ← e2]
  have hm : ∀ z : Array Operand, (z.toList.map a.eval).toArray = z.map a.eval := fun z => Array.ext' (by simp)
  rw [hm, hm]
  rfl
theorem fieldOf_eq {t : TypeId} {f : Nat} {fd : Field} (h : fieldOf P t f = some fd) : ∃ fs, P.underlying t = some (.struct fs) ∧ fs[f]? = some fd := by
  unfold fieldOf at h
  split at h
  · rename_i fs hu; exact ⟨fs, hu, h⟩
  · cases h
theorem fieldAddr_ok (he : EnvOK ρ s a) (hh : HpOK ρ s.n s.heap w) {t : TypeId} {x : Operand} {f : Nat} (h : fieldAddrS P s.env t x f = some v) : (Instr.fieldAt t (a.eval x) f).run P w = .ok (v.conc ρ) w ∧ Sc s.n v := by
  obtain ⟨p, hp, h⟩ := bindO_eq.1 h
  obtain ⟨fd, hf, h⟩ := bindO_eq.1 h
  obtain ⟨z, hz, h⟩ := bindO_eq.1 h
  obtain ⟨h1, h⟩ := guardO_eq.1 h
  obtain ⟨e, hs⟩ := opv_ok he hh hp
  obtain ⟨fs, hu, hfs⟩ := fieldOf_eq hf
  cases p <;> try (cases h; done)
  rename_i b off
  simp only [ptrOf, force_eq] at h
  cases h
  have hz1 : 1 ≤ z := Nat.le_of_ble_eq_true h1
  have hz0 : z ≠ 0 := by omega
  rw [e, conc_ptr, conc_ptr]
  refine ⟨?_, fun ρ₁ ρ₂ ha => by have := hs ρ₁ ρ₂ ha; rw [conc_ptr, conc_ptr] at this ⊢; simp at this; rw [this]⟩
  simp [Instr.fieldAt, run_underlying hu, hfs, Instr.sureAddr, fieldPlace, sizeOf_run hz, hz0]
  exact Addr.add_lit _ _ _
theorem asAgg_cells {x : SV} {t : TypeId} {off : Nat} {r : SV} (hp : partS P t x.cells off = some r) (hx : ∃ cs, x.conc ρ = .agg cs) : x.conc ρ = .agg (x.cells.map (SV.conc ρ)).toArray := by
  obtain ⟨cs, hc⟩ := hx
  rw [hc, ← cells_conc, hc]
  simp [Value.cells]
theorem isAggV_of {x : SV} (h : isAggV x = true) : ∃ cs, x.conc ρ = .agg cs := by
  unfold isAggV at h
  split at h
  · exact ⟨_, conc_agg _ _⟩
  · exact ⟨_, conc_v _ _⟩
  · cases h
theorem field_ok (he : EnvOK ρ s a) (hh : HpOK ρ s.n s.heap w) {t : TypeId} {x : Operand} {f : Nat} (h : fieldS P s.env t x f = some v) : (Instr.field t (a.eval x) f).run P w = .ok (v.conc ρ) w ∧ Sc s.n v := by
  obtain ⟨p, hp, h⟩ := bindO_eq.1 h
  obtain ⟨fd, hf, h⟩ := bindO_eq.1 h
  obtain ⟨h1, h⟩ := guardO_eq.1 h
  obtain ⟨e, hs⟩ := opv_ok he hh hp
  obtain ⟨fs, hu, hfs⟩ := fieldOf_eq hf
  rw [e, asAgg_cells h (isAggV_of h1)]
  refine ⟨?_, partS_sc hs.cells h⟩
  simp [Instr.field, run_underlying hu, hfs, asAgg, part_ok h w]
theorem natOf_eq {x : SV} {n : Nat} (h : natOf x = some n) : ∃ k, x = .v (.int k (n : Int)) := by
  unfold natOf at h
  split at h
  · cases h; exact ⟨_, rfl⟩
  · cases h
theorem elemOfT_eq {t e : TypeId} (h : elemOfT P t = some e) : P.underlying t = some (.slice e) := by
  unfold elemOfT at h
  split at h
  · rename_i hu; cases h; exact hu
  · cases h
theorem arrayOfT_eq {t : TypeId} {ne : Nat × TypeId} (h : arrayOfT P t = some ne) : P.underlying t = some (.array ne.1 ne.2) := by
  unfold arrayOfT at h
  split at h
  · rename_i hu; cases h; exact hu
  · cases h
theorem Sc.ptr_of {n b off off' : Nat} {x : SV} (hs : Sc n x) (hx : ∀ ρ, ∃ n' c', x.conc ρ = .slice (some ⟨ρ.blk b, off, none⟩) n' c' ∨ x.conc ρ = .pointer (some ⟨ρ.blk b, off, none⟩)) : Sc n (.ptr b off') := fun ρ₁ ρ₂ ha => by
  have h := hs ρ₁ ρ₂ ha
  obtain ⟨n1, c1, h1⟩ := hx ρ₁
  obtain ⟨n2, c2, h2⟩ := hx ρ₂
  rw [conc_ptr, conc_ptr]
  rcases h1 with h1 | h1 <;> rcases h2 with h2 | h2 <;> rw [h1, h2] at h <;> simp at h
  · rw [h.1]
  · rw [h]
theorem indexRow_ok {n k : Nat} {t : TypeId} {p : SV} (h : indexRow P t p k = some v) (hs : Sc n p) (kd : IntKind) : (Instr.indexAt t (p.conc ρ) (.int kd k)).run P w = .ok (v.conc ρ) w ∧ Sc n v := by
  cases p with
  | sl b off m c =>
    obtain ⟨el, hel, h⟩ := bindO_eq.1 (show (bindO (elemOfT P t) fun e => bindO (sizeT P e) fun z => guardO (Nat.ble (Nat.succ k) m) (force (Nat.add off (Nat.mul k z)) fun off => some (SV.ptr b off))) = some v from h)
    obtain ⟨z, hz, h⟩ := bindO_eq.1 h
    obtain ⟨h1, h⟩ := guardO_eq.1 h
    rw [force_eq] at h
    cases h
    have hlt : k < m := Nat.le_of_ble_eq_true h1
    have hut := elemOfT_eq hel
    have hsc : Sc n (.ptr b (Nat.add off (Nat.mul k z))) := hs.ptr_of (off := off) fun ρ => by cases c <;> exact ⟨_, _, .inl (by first | exact conc_ex _ _ _ _ _ | exact conc_un _ _ _ _ _)⟩
    refine ⟨?_, hsc⟩
    have hcc : ∃ cp, (SV.sl b off m c).conc ρ = .slice (some ⟨ρ.blk b, off, none⟩) m cp := by cases c <;> exact ⟨_, by first | exact conc_ex _ _ _ _ _ | exact conc_un _ _ _ _ _⟩
    obtain ⟨cp, hcp⟩ := hcc
    rw [hcp, conc_ptr]
    simp [Instr.indexAt, asIntOf, run_underlying hut, hlt, sizeOf_run hz]
    exact Addr.add_lit _ _ _
  | ptr b off =>
    obtain ⟨ne, hne, h⟩ := bindO_eq.1 (show (bindO (arrayOfT P t) fun ne => bindO (sizeT P ne.2) fun z => guardO (Nat.ble (Nat.succ k) ne.1) (force (Nat.add off (Nat.mul k z)) fun off => some (SV.ptr b off))) = some v from h)
    obtain ⟨z, hz, h⟩ := bindO_eq.1 h
    obtain ⟨h1, h⟩ := guardO_eq.1 h
    rw [force_eq] at h
    cases h
    have hlt : k < ne.1 := Nat.le_of_ble_eq_true h1
    have hut := arrayOfT_eq hne
    have hsc : Sc n (.ptr b (Nat.add off (Nat.mul k z))) := hs.ptr_of (off := off) fun ρ => ⟨0, 0, .inr (conc_ptr _ _ _)⟩
    refine ⟨?_, hsc⟩
    rw [conc_ptr, conc_ptr]
    simp [Instr.indexAt, asIntOf, run_underlying hut, hlt, sizeOf_run hz, Instr.sureAddr]
    exact Addr.add_lit _ _ _
  | _ => cases h
theorem indexAddr_ok (he : EnvOK ρ s a) (hh : HpOK ρ s.n s.heap w) {t : TypeId} {x i : Operand} (h : indexAddrS P s.env t x i = some v) : (Instr.indexAt t (a.eval x) (a.eval i)).run P w = .ok (v.conc ρ) w ∧ Sc s.n v := by
  obtain ⟨p, hp, h⟩ := bindO_eq.1 h
  obtain ⟨k, hk, h⟩ := bindO_eq.1 h
  obtain ⟨u, hu, hk⟩ := bindO_eq.1 hk
  obtain ⟨kd, hkd⟩ := natOf_eq hk
  obtain ⟨e, hs⟩ := opv_ok he hh hp
  have ei := (opv_ok he hh hu).1
  rw [hkd, conc_v] at ei
  rw [e, ei]
  exact indexRow_ok h hs kd
theorem indexArr_ok {n k : Nat} {t : TypeId} {p : SV} (h : (bindO (arrayOfT P t) fun ne => bindO (sizeT P ne.2) fun z => guardO (Nat.ble (Nat.succ k) ne.1) (guardO (isAggV p) (partS P ne.2 p.cells (Nat.mul k z)))) = some v) (hs : Sc n p) (kd : IntKind) :
    (Instr.index t (p.conc ρ) (.int kd k)).run P w = .ok (v.conc ρ) w ∧ Sc n v := by
  obtain ⟨ne, hne, h⟩ := bindO_eq.1 h
  obtain ⟨z, hz, h⟩ := bindO_eq.1 h
  obtain ⟨h1, h⟩ := guardO_eq.1 h
  obtain ⟨h2, h⟩ := guardO_eq.1 h
  have hlt : k < ne.1 := Nat.le_of_ble_eq_true h1
  have hut := arrayOfT_eq hne
  rw [asAgg_cells h (isAggV_of h2)]
  refine ⟨?_, partS_sc hs.cells h⟩
  have := part_ok (ρ := ρ) h w
  simp [Instr.index, asIntOf, run_underlying hut, hlt, sizeOf_run hz]
  exact this
theorem index_ok (he : EnvOK ρ s a) (hh : HpOK ρ s.n s.heap w) {t : TypeId} {x i : Operand} (h : indexS P s.env t x i = some v) : (Instr.index t (a.eval x) (a.eval i)).run P w = .ok (v.conc ρ) w ∧ Sc s.n v := by
  obtain ⟨p, hp, h⟩ := bindO_eq.1 h
  obtain ⟨u, hu, h⟩ := bindO_eq.1 h
  obtain ⟨e, hs⟩ := opv_ok he hh hp
  have ei := (opv_ok he hh hu).1
  rw [e, ei]
  unfold indexV at h
  split at h
  · rename_i bs
    obtain ⟨y, hy, h⟩ := bindO_eq.1 h
    obtain ⟨r, hr0, hr⟩ := pureOp_eq h
    rw [conc_v, flat_conc hy ρ, hr0, conc_v]
    exact ⟨hr w, Sc.v _ _⟩
  · obtain ⟨k, hk, h⟩ := bindO_eq.1 h
    obtain ⟨kd, hkd⟩ := natOf_eq hk
    rw [hkd, conc_v]
    exact indexArr_ok h hs kd
theorem extract_ok (he : EnvOK ρ s a) (hh : HpOK ρ s.n s.heap w) {t : Operand} {i : Nat} (h : extractS s.env t i = some v) : (Instr.extract (a.eval t) i).run P w = .ok (v.conc ρ) w ∧ Sc s.n v := by
  obtain ⟨u, hu, h⟩ := bindO_eq.1 h
  obtain ⟨e, hs⟩ := opv_ok he hh hu
  split at h
  · rename_i vs
    rw [nth_eq] at h
    rw [e, conc_tup]
    refine ⟨by simp [Instr.extract, h], hs.tup_inv v (List.mem_of_getElem? h)⟩
  · cases h

/-! ### Composites -/
theorem foldl_put (off : Nat) : ∀ (vs : List Value) (k : Nat) (cs : Array Value), off + k + vs.length ≤ cs.size →
    ((vs.zipIdx k).foldl (fun (cs : Array Value) (x : Value × Nat) => cs.setIfInBounds (off + x.2) x.1) cs).size = cs.size ∧
    ∀ i : Nat, ((vs.zipIdx k).foldl (fun (cs : Array Value) (x : Value × Nat) => cs.setIfInBounds (off + x.2) x.1) cs)[i]? = if off + k ≤ i ∧ i < off + k + vs.length then vs[i - (off + k)]? else cs[i]?
  | [], k, cs, h => ⟨rfl, fun i => by simp; intro h1 h2; omega⟩
  | v :: vs, k, cs, h => by
    simp only [List.length_cons] at h
    obtain ⟨h1, h2⟩ := foldl_put off vs (k + 1) (cs.setIfInBounds (off + k) v) (by simp; omega)
    simp only [List.zipIdx_cons, List.foldl_cons]
    refine ⟨h1.trans (by simp), fun i => ?_⟩
    rw [h2 i]
    by_cases hi : i = off + k
    · subst hi
      rw [if_neg (by omega), if_pos (by simp)]
      have hlt : off + k < cs.size := by omega
      simp [hlt]
    · have hne : off + k ≠ i := Ne.symm hi
      by_cases hc : off + (k + 1) ≤ i ∧ i < off + (k + 1) + vs.length
      · rw [if_pos hc, if_pos (by simp only [List.length_cons]; omega)]
        have : i - (off + k) = (i - (off + (k + 1))) + 1 := by omega
        rw [this, List.getElem?_cons_succ]
      · rw [if_neg hc, if_neg (by simp only [List.length_cons]; omega)]
        simp [Array.getElem?_setIfInBounds_ne hne]
theorem put_conc {vs cs r : List SV} {off : Nat} (h : putS vs off cs = some r) (xs : Array Value) (hx : xs.toList = vs.map (SV.conc ρ)) :
    xs.zipIdx.foldl (fun (cs : Array Value) (x : Value × Nat) => cs.setIfInBounds (off + x.2) x.1) (cs.map (SV.conc ρ)).toArray = (r.map (SV.conc ρ)).toArray := by
  obtain ⟨h1, h2, h3⟩ := putS_get vs off h
  have hl : xs.toList.length = vs.length := by rw [hx]; simp
  obtain ⟨g1, g2⟩ := foldl_put off xs.toList 0 (cs.map (SV.conc ρ)).toArray (by simp at hl ⊢; omega)
  rw [← Array.foldl_toList, Array.toList_zipIdx]
  refine Array.ext_getElem? fun i => ?_
  rw [g2 i, hx]
  simp only [Nat.add_zero, List.length_map, List.getElem?_toArray, List.getElem?_map, h3 i]
  split <;> rfl
theorem fill_conc {pl : Nat → Option (Nat × Nat)} : ∀ {ps : List (Nat × SV)} {cs r : List SV}, fillS pl ps cs = some r →
    Instr.fill pl (cs.map (SV.conc ρ)).toArray (ps.map fun p => (p.1, p.2.conc ρ)) = some (r.map (SV.conc ρ)).toArray
  | [], cs, r, h => by cases h; rfl
  | (i, x) :: ps, cs, r, h => by
    obtain ⟨p, hp, h⟩ := bindO_eq.1 (show bindO (pl i) (fun pl' => guardO (Nat.beq (len x.cells) pl'.2) (bindO (putS x.cells pl'.1 cs) (fillS pl ps))) = some r from h)
    obtain ⟨h1, h⟩ := guardO_eq.1 h
    obtain ⟨c2, h2, h5⟩ := bindO_eq.1 h
    have hn : x.cells.length = p.2 := by rw [← len_eq]; exact Nat.eq_of_beq_eq_true h1
    obtain ⟨g1, g2, -⟩ := putS_get _ _ h2
    have hc := cells_conc x ρ
    have hsz : (x.conc ρ).cells.size = x.cells.length := by rw [← Array.length_toList, hc]; simp
    obtain ⟨off, sz⟩ := p
    simp only [List.map_cons, Instr.fill, hp]
    rw [if_neg (by simp [hsz]; exact ⟨hn, by omega⟩)]
    rw [put_conc h2 _ hc]
    exact fill_conc h5
theorem fill_sc {n : Nat} {pl : Nat → Option (Nat × Nat)} : ∀ {ps : List (Nat × SV)} {cs r : List SV}, fillS pl ps cs = some r → (∀ p ∈ ps, Sc n p.2) → (∀ x ∈ cs, Sc n x) → ∀ x ∈ r, Sc n x
  | [], cs, r, h, _, hc => by cases h; exact hc
  | (i, x) :: ps, cs, r, h, hp, hc => by
    obtain ⟨p, hpl, h⟩ := bindO_eq.1 (show bindO (pl i) (fun pl' => guardO (Nat.beq (len x.cells) pl'.2) (bindO (putS x.cells pl'.1 cs) (fillS pl ps))) = some r from h)
    obtain ⟨h1, h⟩ := guardO_eq.1 h
    obtain ⟨c2, h2, h⟩ := bindO_eq.1 h
    obtain ⟨-, -, g3⟩ := putS_get _ _ h2
    refine fill_sc h (fun q hq => hp q (List.mem_cons_of_mem _ hq)) fun y hy => ?_
    obtain ⟨j, hj⟩ := List.mem_iff_getElem?.1 hy
    rw [g3 j] at hj
    split at hj
    · exact Sc.cells (hp _ List.mem_cons_self) y (List.mem_of_getElem? hj)
    · exact hc y (List.mem_of_getElem? hj)
theorem zero_conc {t : TypeId} {z : List SV} (h : zeroOf P t = some z) : ∃ i zv, P.info? t = some i ∧ i.zero = some zv ∧ (z.map (SV.conc ρ)).toArray = zv.cells ∧ ∀ n, ∀ x ∈ z, Sc n x := by
  obtain ⟨i, h1, h⟩ := bindO_eq.1 h
  obtain ⟨zv, h2, h⟩ := bindO_eq.1 h
  cases h
  refine ⟨i, zv, h1, h2, ?_, fun n x hx => ?_⟩
  · rw [valsOf_eq]
    apply Array.ext'
    simp [Function.comp_def, conc_v]
  · rw [valsOf_eq] at hx
    obtain ⟨y, -, rfl⟩ := List.mem_map.1 hx
    exact Sc.v _ _
theorem opps_ok (he : EnvOK ρ s a) (hh : HpOK ρ s.n s.heap w) {l : List (Nat × Operand)} {vs : List (Nat × SV)} (h : opps s.env l = some vs) :
    (l.map fun p => (p.1, a.eval p.2)) = vs.map (fun p => (p.1, p.2.conc ρ)) ∧ ∀ p ∈ vs, Sc s.n p.2 := by
  obtain ⟨h1, h2⟩ := mapO_eq.1 h
  constructor
  · refine List.ext_getElem? fun i => ?_
    cases hx : l[i]? with
    | none =>
      have : l.length ≤ i := by simpa using hx
      have : vs[i]? = none := by simp [h1, this]
      simp [hx, this]
    | some x =>
      obtain ⟨y, e1, e2⟩ := h2 i x hx
      obtain ⟨u, e3, e4⟩ := bindO_eq.1 e2
      cases e4
      simp [hx, e1, (opv_ok he hh e3).1]
  · intro v hv
    obtain ⟨i, hi⟩ := List.mem_iff_getElem?.1 hv
    have hlt : i < l.length := by rw [← h1]; exact (List.getElem?_eq_some_iff.1 hi).1
    obtain ⟨y, e1, e2⟩ := h2 i _ (List.getElem?_eq_getElem hlt)
    rw [hi] at e1
    cases e1
    obtain ⟨u, e3, e4⟩ := bindO_eq.1 e2
    cases e4
    exact (opv_ok he hh e3).2
theorem parts_list (f : Operand → Value) (ps : Array (Nat × Operand)) : (ps.map fun (i, x) => (i, f x)).toList = ps.toList.map fun p => (p.1, f p.2) := by simp
theorem build_ok (he : EnvOK ρ s a) (hh : HpOK ρ s.n s.heap w) {t : TypeId} {ps : Array (Nat × Operand)} (h : buildS P s t ps = some v) :
    (Instr.build t (ps.map fun (i, x) => (i, a.eval x))).run P w = .ok (v.conc ρ) w ∧ Sc s.n v := by
  obtain ⟨z, hz, h⟩ := bindO_eq.1 h
  obtain ⟨vs, hvs, h⟩ := bindO_eq.1 h
  obtain ⟨pl, hpl, h⟩ := bindO_eq.1 h
  obtain ⟨cs, hcs, h⟩ := bindO_eq.1 h
  cases h
  obtain ⟨i, zv, hi, hzv, hzc, hzs⟩ := zero_conc (ρ := ρ) hz
  obtain ⟨e, hs⟩ := opps_ok he hh hvs
  refine ⟨?_, Sc.agg (fill_sc hcs hs (hzs s.n))⟩
  rw [conc_agg]
  refine run_build w t _ _ ?_
  rw [parts_list, e]
  have hf := fill_conc (ρ := ρ) hcs
  rw [hzc] at hf
  unfold placesOf at hpl
  unfold Program.built
  rw [hi]
  split at hpl
  · rename_i fs hu
    obtain ⟨l, hl, hpl⟩ := bindO_eq.1 hpl
    cases hpl
    simp only [hu, hzv, hl]
    simpa using hf
  · rename_i n el hu
    obtain ⟨m, hm, hpl⟩ := bindO_eq.1 hpl
    cases hpl
    obtain ⟨j, hj, hm⟩ := bindO_eq.1 hm
    cases hm
    simp only [hu, hzv, hj]
    exact hf
  · cases hpl
end Go.Ex
