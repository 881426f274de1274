/- ExD, ExE, ExF: texts of one claim laid together. -/
import Derived.Test.YtneakieigiafpaaGreatDoorExAC
import Derived.Laws.Cover3
import Derived.Laws.Pointers
import Derived.Laws.IdiomCopy
import Derived.Laws.IdiomStrings
import Derived.Laws.MakeOwn
import Derived.Laws.Append
/- The runner's operations that look at memory at most: they do what the model's do. -/
namespace Go.Ex
open Go

theorem exec_v {P : Program} {s : Sem Value} {v : Value} {w w' : World} (h : s.run P w = .ok v w') : ((do pure (Next.value (← s))) : Sem Next).run P w = .ok (.value v) w' := by simp [h]
variable {P : Program} {cx : Cx} {o : Oper} {s s' : St} {v : SV} {ρ : Va} {a : Act} {w : World}

theorem ptrOf_eq {α : Type} {p : SV} {f : Nat → Nat → Option α} {r : α} (h : ptrOf p f = some r) : ∃ b off, p = .ptr b off ∧ f b off = some r := by
  unfold ptrOf at h
  split at h
  · exact ⟨_, _, rfl, h⟩
  · cases h
theorem pick_ok (he : EnvOK ρ s a) (hh : HpOK ρ s.n s.heap w) {c x y : Operand} (h : pickS s.env c x y = some v) :
    ((do pure (Next.value (if ← asBool (a.eval c) then a.eval x else a.eval y))) : Sem Next).run P w = .ok (.value (v.conc ρ)) w ∧ Sc s.n v := by
  obtain ⟨u, hc, h⟩ := bindO_eq.1 h
  split at h
  · rename_i t
    have hb : a.eval c = .bool t := (opv_ok he hh hc).1.trans (conc_v _ _)
    rw [hb]
    cases t with
    | true => have := opv_ok he hh (show opv s.env x = some v from h); simp [asBool, this.1, this.2]
    | false => have := opv_ok he hh (show opv s.env y = some v from h); simp [asBool, this.1, this.2]
  · cases h
theorem load_ok (he : EnvOK ρ s a) (hh : HpOK ρ s.n s.heap w) {t : TypeId} {x : Operand} (h : (bindO (opv s.env x) fun p => loadS P s.heap t p) = some v) :
    (Instr.loadAt t (a.eval x)).run P w = .ok (v.conc ρ) w ∧ Sc s.n v := by
  obtain ⟨p, hp, h⟩ := bindO_eq.1 h
  have e := (opv_ok he hh hp).1
  cases p <;> try (cases h; done)
  rename_i b off
  obtain ⟨bl, hb, h⟩ := bindO_eq.1 (show bindO (hget s.heap b) (fun bl => partS P t bl.cells off) = some v from h)
  rw [conc_ptr] at e
  rw [e]
  exact ⟨by simp [Instr.loadAt, Instr.sureAddr, loadVar_ok (hh.bk b bl hb) h], partS_sc (hh.sc b bl hb) h⟩
theorem nil_ok (he : EnvOK ρ s a) (hh : HpOK ρ s.n s.heap w) {x : Operand} (ho : o.op = .nilCheck x) (h : nilS s.env x = some v) :
    (execOp a.eval o).run P w = .ok (.value (v.conc ρ)) w ∧ Sc s.n v := by
  obtain ⟨u, hu, h⟩ := bindO_eq.1 h
  obtain ⟨h1, h2⟩ := guardO_eq.1 h
  cases h2
  obtain ⟨e, hs⟩ := opv_ok he hh hu
  refine ⟨?_, hs⟩
  unfold execOp
  simp only [ho, e]
  cases v with
  | v x => cases h1
  | ptr b off => rw [conc_ptr]; rfl
  | sl b off n c => cases c <;> simp only [conc_ex, conc_un] <;> rfl
  | fn f a c => rw [conc_fn]; rfl
  | agg cs => cases h1
  | tup cs => cases h1
theorem un_ok (he : EnvOK ρ s a) (hh : HpOK ρ s.n s.heap w) {op : UnOp} {x : Operand} (h : unS P s.env op x = some v) : (Op.unary op (a.eval x)).run P w = .ok (v.conc ρ) w ∧ Sc s.n v := by
  obtain ⟨u, hu, h⟩ := bindO_eq.1 h
  obtain ⟨y, hy, h⟩ := bindO_eq.1 h
  obtain ⟨r, rfl, hr⟩ := pureOp_eq h
  rw [(opv_ok he hh hu).1, flat_conc hy ρ, conc_v]
  exact ⟨hr w, Sc.v _ _⟩
theorem func_ok (he : EnvOK ρ s a) (hh : HpOK ρ s.n s.heap w) {fn : Fn} {x y : Array Operand} (h : funcS s.env fn x y = some v) : (Instr.makeFunc fn (x.map a.eval) (y.map a.eval)).run P w = .ok (v.conc ρ) w ∧ Sc s.n v := by
  cases fn <;> try (cases h; done)
  rename_i f
  obtain ⟨as, h1, h⟩ := bindO_eq.1 (show bindO (opvs s.env x.toList) (fun a => bindO (opvs s.env y.toList) fun b => some (SV.fn f a b)) = some v from h)
  obtain ⟨bs, h2, h⟩ := bindO_eq.1 h
  cases h
  obtain ⟨e1, s1⟩ := opvs_ok he hh h1
  obtain ⟨e2, s2⟩ := opvs_ok he hh h2
  refine ⟨?_, Sc.fn s1 s2⟩
  rw [conc_fn, ← e1, ← e2]
  have hm : ∀ z : Array Operand, (z.toList.map a.eval).toArray = z.map a.eval := fun z => Array.ext' (by simp)
  rw [hm, hm]
  rfl
theorem fieldOf_eq {t : TypeId} {f : Nat} {fd : Field} (h : fieldOf P t f = some fd) : ∃ fs, P.underlying t = some (.struct fs) ∧ fs[f]? = some fd := by
  unfold fieldOf at h
  split at h
  · rename_i fs hu; exact ⟨fs, hu, h⟩
  · cases h
theorem fieldAddr_ok (he : EnvOK ρ s a) (hh : HpOK ρ s.n s.heap w) {t : TypeId} {x : Operand} {f : Nat} (h : fieldAddrS P s.env t x f = some v) : (Instr.fieldAt t (a.eval x) f).run P w = .ok (v.conc ρ) w ∧ Sc s.n v := by
  obtain ⟨p, hp, h⟩ := bindO_eq.1 h
  obtain ⟨fd, hf, h⟩ := bindO_eq.1 h
  obtain ⟨z, hz, h⟩ := bindO_eq.1 h
  obtain ⟨h1, h⟩ := guardO_eq.1 h
  obtain ⟨e, hs⟩ := opv_ok he hh hp
  obtain ⟨fs, hu, hfs⟩ := fieldOf_eq hf
  cases p <;> try (cases h; done)
  rename_i b off
  simp only [ptrOf, force_eq] at h
  cases h
  have hz1 : 1 ≤ z := Nat.le_of_ble_eq_true h1
  have hz0 : z ≠ 0 := by omega
  rw [e, conc_ptr, conc_ptr]
  refine ⟨?_, fun ρ₁ ρ₂ ha => by have := hs ρ₁ ρ₂ ha; rw [conc_ptr, conc_ptr] at this ⊢; simp at this; rw [this]⟩
  simp [Instr.fieldAt, run_underlying hu, hfs, Instr.sureAddr, fieldPlace, sizeOf_run hz, hz0]
  exact Addr.add_lit _ _ _
theorem asAgg_cells {x : SV} {t : TypeId} {off : Nat} {r : SV} (hp : partS P t x.cells off = some r) (hx : ∃ cs, x.conc ρ = .agg cs) : x.conc ρ = .agg (x.cells.map (SV.conc ρ)).toArray := by
  obtain ⟨cs, hc⟩ := hx
  rw [hc, ← cells_conc, hc]
  simp [Value.cells]
theorem isAggV_of {x : SV} (h : isAggV x = true) : ∃ cs, x.conc ρ = .agg cs := by
  unfold isAggV at h
  split at h
  · exact ⟨_, conc_agg _ _⟩
  · exact ⟨_, conc_v _ _⟩
  · cases h
theorem field_ok (he : EnvOK ρ s a) (hh : HpOK ρ s.n s.heap w) {t : TypeId} {x : Operand} {f : Nat} (h : fieldS P s.env t x f = some v) : (Instr.field t (a.eval x) f).run P w = .ok (v.conc ρ) w ∧ Sc s.n v := by
  obtain ⟨p, hp, h⟩ := bindO_eq.1 h
  obtain ⟨fd, hf, h⟩ := bindO_eq.1 h
  obtain ⟨h1, h⟩ := guardO_eq.1 h
  obtain ⟨e, hs⟩ := opv_ok he hh hp
  obtain ⟨fs, hu, hfs⟩ := fieldOf_eq hf
  rw [e, asAgg_cells h (isAggV_of h1)]
  refine ⟨?_, partS_sc hs.cells h⟩
  simp [Instr.field, run_underlying hu, hfs, asAgg, part_ok h w]
theorem natOf_eq {x : SV} {n : Nat} (h : natOf x = some n) : ∃ k, x = .v (.int k (n : Int)) := by
  unfold natOf at h
  split at h
  · cases h; exact ⟨_, rfl⟩
  · cases h
theorem elemOfT_eq {t e : TypeId} (h : elemOfT P t = some e) : P.underlying t = some (.slice e) := by
  unfold elemOfT at h
  split at h
  · rename_i hu; cases h; exact hu
  · cases h
theorem arrayOfT_eq {t : TypeId} {ne : Nat × TypeId} (h : arrayOfT P t = some ne) : P.underlying t = some (.array ne.1 ne.2) := by
  unfold arrayOfT at h
  split at h
  · rename_i hu; cases h; exact hu
  · cases h
theorem Sc.ptr_of {n b off off' : Nat} {x : SV} (hs : Sc n x) (hx : ∀ ρ, ∃ n' c', x.conc ρ = .slice (some ⟨ρ.blk b, off, none⟩) n' c' ∨ x.conc ρ = .pointer (some ⟨ρ.blk b, off, none⟩)) : Sc n (.ptr b off') := fun ρ₁ ρ₂ ha => by
  have h := hs ρ₁ ρ₂ ha
  obtain ⟨n1, c1, h1⟩ := hx ρ₁
  obtain ⟨n2, c2, h2⟩ := hx ρ₂
  rw [conc_ptr, conc_ptr]
  rcases h1 with h1 | h1 <;> rcases h2 with h2 | h2 <;> rw [h1, h2] at h <;> simp at h
  · rw [h.1]
  · rw [h]
theorem indexRow_ok {n k : Nat} {t : TypeId} {p : SV} (h : indexRow P t p k = some v) (hs : Sc n p) (kd : IntKind) : (Instr.indexAt t (p.conc ρ) (.int kd k)).run P w = .ok (v.conc ρ) w ∧ Sc n v := by
  cases p with
  | sl b off m c =>
    obtain ⟨el, hel, h⟩ := bindO_eq.1 (show (bindO (elemOfT P t) fun e => bindO (sizeT P e) fun z => guardO (Nat.ble (Nat.succ k) m) (force (Nat.add off (Nat.mul k z)) fun off => some (SV.ptr b off))) = some v from h)
    obtain ⟨z, hz, h⟩ := bindO_eq.1 h
    obtain ⟨h1, h⟩ := guardO_eq.1 h
    rw [force_eq] at h
    cases h
    have hlt : k < m := Nat.le_of_ble_eq_true h1
    have hut := elemOfT_eq hel
    have hsc : Sc n (.ptr b (Nat.add off (Nat.mul k z))) := hs.ptr_of (off := off) fun ρ => by cases c <;> exact ⟨_, _, .inl (by first | exact conc_ex _ _ _ _ _ | exact conc_un _ _ _ _ _)⟩
    refine ⟨?_, hsc⟩
    have hcc : ∃ cp, (SV.sl b off m c).conc ρ = .slice (some ⟨ρ.blk b, off, none⟩) m cp := by cases c <;> exact ⟨_, by first | exact conc_ex _ _ _ _ _ | exact conc_un _ _ _ _ _⟩
    obtain ⟨cp, hcp⟩ := hcc
    rw [hcp, conc_ptr]
    simp [Instr.indexAt, asIntOf, run_underlying hut, hlt, sizeOf_run hz]
    exact Addr.add_lit _ _ _
  | ptr b off =>
    obtain ⟨ne, hne, h⟩ := bindO_eq.1 (show (bindO (arrayOfT P t) fun ne => bindO (sizeT P ne.2) fun z => guardO (Nat.ble (Nat.succ k) ne.1) (force (Nat.add off (Nat.mul k z)) fun off => some (SV.ptr b off))) = some v from h)
    obtain ⟨z, hz, h⟩ := bindO_eq.1 h
    obtain ⟨h1, h⟩ := guardO_eq.1 h
    rw [force_eq] at h
    cases h
    have hlt : k < ne.1 := Nat.le_of_ble_eq_true h1
    have hut := arrayOfT_eq hne
    have hsc : Sc n (.ptr b (Nat.add off (Nat.mul k z))) := hs.ptr_of (off := off) fun ρ => ⟨0, 0, .inr (conc_ptr _ _ _)⟩
    refine ⟨?_, hsc⟩
    rw [conc_ptr, conc_ptr]
    simp [Instr.indexAt, asIntOf, run_underlying hut, hlt, sizeOf_run hz, Instr.sureAddr]
    exact Addr.add_lit _ _ _
  | _ => cases h
theorem indexAddr_ok (he : EnvOK ρ s a) (hh : HpOK ρ s.n s.heap w) {t : TypeId} {x i : Operand} (h : indexAddrS P s.env t x i = some v) : (Instr.indexAt t (a.eval x) (a.eval i)).run P w = .ok (v.conc ρ) w ∧ Sc s.n v := by
  obtain ⟨p, hp, h⟩ := bindO_eq.1 h
  obtain ⟨k, hk, h⟩ := bindO_eq.1 h
  obtain ⟨u, hu, hk⟩ := bindO_eq.1 hk
  obtain ⟨kd, hkd⟩ := natOf_eq hk
  obtain ⟨e, hs⟩ := opv_ok he hh hp
  have ei := (opv_ok he hh hu).1
  rw [hkd, conc_v] at ei
  rw [e, ei]
  exact indexRow_ok h hs kd
theorem indexArr_ok {n k : Nat} {t : TypeId} {p : SV} (h : (bindO (arrayOfT P t) fun ne => bindO (sizeT P ne.2) fun z => guardO (Nat.ble (Nat.succ k) ne.1) (guardO (isAggV p) (partS P ne.2 p.cells (Nat.mul k z)))) = some v) (hs : Sc n p) (kd : IntKind) :
    (Instr.index t (p.conc ρ) (.int kd k)).run P w = .ok (v.conc ρ) w ∧ Sc n v := by
  obtain ⟨ne, hne, h⟩ := bindO_eq.1 h
  obtain ⟨z, hz, h⟩ := bindO_eq.1 h
  obtain ⟨h1, h⟩ := guardO_eq.1 h
  obtain ⟨h2, h⟩ := guardO_eq.1 h
  have hlt : k < ne.1 := Nat.le_of_ble_eq_true h1
  have hut := arrayOfT_eq hne
  rw [asAgg_cells h (isAggV_of h2)]
  refine ⟨?_, partS_sc hs.cells h⟩
  have := part_ok (ρ := ρ) h w
  simp [Instr.index, asIntOf, run_underlying hut, hlt, sizeOf_run hz]
  exact this
theorem index_ok (he : EnvOK ρ s a) (hh : HpOK ρ s.n s.heap w) {t : TypeId} {x i : Operand} (h : indexS P s.env t x i = some v) : (Instr.index t (a.eval x) (a.eval i)).run P w = .ok (v.conc ρ) w ∧ Sc s.n v := by
  obtain ⟨p, hp, h⟩ := bindO_eq.1 h
  obtain ⟨u, hu, h⟩ := bindO_eq.1 h
  obtain ⟨e, hs⟩ := opv_ok he hh hp
  have ei := (opv_ok he hh hu).1
  rw [e, ei]
  unfold indexV at h
  split at h
  · rename_i bs
    obtain ⟨y, hy, h⟩ := bindO_eq.1 h
    obtain ⟨r, hr0, hr⟩ := pureOp_eq h
    rw [conc_v, flat_conc hy ρ, hr0, conc_v]
    exact ⟨hr w, Sc.v _ _⟩
  · obtain ⟨k, hk, h⟩ := bindO_eq.1 h
    obtain ⟨kd, hkd⟩ := natOf_eq hk
    rw [hkd, conc_v]
    exact indexArr_ok h hs kd
theorem extract_ok (he : EnvOK ρ s a) (hh : HpOK ρ s.n s.heap w) {t : Operand} {i : Nat} (h : extractS s.env t i = some v) : (Instr.extract (a.eval t) i).run P w = .ok (v.conc ρ) w ∧ Sc s.n v := by
  obtain ⟨u, hu, h⟩ := bindO_eq.1 h
  obtain ⟨e, hs⟩ := opv_ok he hh hu
  split at h
  · rename_i vs
    rw [nth_eq] at h
    rw [e, conc_tup]
    refine ⟨by simp [Instr.extract, h], hs.tup_inv v (List.mem_of_getElem? h)⟩
  · cases h

/-! ### Composites -/
theorem foldl_put (off : Nat) : ∀ (vs : List Value) (k : Nat) (cs : Array Value), off + k + vs.length ≤ cs.size →
    ((vs.zipIdx k).foldl (fun (cs : Array Value) (x : Value × Nat) => cs.setIfInBounds (off + x.2) x.1) cs).size = cs.size ∧
    ∀ i : Nat, ((vs.zipIdx k).foldl (fun (cs : Array Value) (x : Value × Nat) => cs.setIfInBounds (off + x.2) x.1) cs)[i]? = if off + k ≤ i ∧ i < off + k + vs.length then vs[i - (off + k)]? else cs[i]?
  | [], k, cs, h => ⟨rfl, fun i => by simp; intro h1 h2; omega⟩
  | v :: vs, k, cs, h => by
    simp only [List.length_cons] at h
    obtain ⟨h1, h2⟩ := foldl_put off vs (k + 1) (cs.setIfInBounds (off + k) v) (by simp; omega)
    simp only [List.zipIdx_cons, List.foldl_cons]
    refine ⟨h1.trans (by simp), fun i => ?_⟩
    rw [h2 i]
    by_cases hi : i = off + k
    · subst hi
      rw [if_neg (by omega), if_pos (by simp)]
      have hlt : off + k < cs.size := by omega
      simp [hlt]
    · have hne : off + k ≠ i := Ne.symm hi
      by_cases hc : off + (k + 1) ≤ i ∧ i < off + (k + 1) + vs.length
      · rw [if_pos hc, if_pos (by simp only [List.length_cons]; omega)]
        have : i - (off + k) = (i - (off + (k + 1))) + 1 := by omega
        rw [this, List.getElem?_cons_succ]
      · rw [if_neg hc, if_neg (by simp only [List.length_cons]; omega)]
        simp [Array.getElem?_setIfInBounds_ne hne]
theorem put_conc {vs cs r : List SV} {off : Nat} (h : putS vs off cs = some r) (xs : Array Value) (hx : xs.toList = vs.map (SV.conc ρ)) :
    xs.zipIdx.foldl (fun (cs : Array Value) (x : Value × Nat) => cs.setIfInBounds (off + x.2) x.1) (cs.map (SV.conc ρ)).toArray = (r.map (SV.conc ρ)).toArray := by
  obtain ⟨h1, h2, h3⟩ := putS_get vs off h
  have hl : xs.toList.length = vs.length := by rw [hx]; simp
  obtain ⟨g1, g2⟩ := foldl_put off xs.toList 0 (cs.map (SV.conc ρ)).toArray (by simp at hl ⊢; omega)
  rw [← Array.foldl_toList, Array.toList_zipIdx]
  refine Array.ext_getElem? fun i => ?_
  rw [g2 i, hx]
  simp only [Nat.add_zero, List.length_map, List.getElem?_toArray, List.getElem?_map, h3 i]
  split <;> rfl
theorem fill_conc {pl : Nat → Option (Nat × Nat)} : ∀ {ps : List (Nat × SV)} {cs r : List SV}, fillS pl ps cs = some r →
    Instr.fill pl (cs.map (SV.conc ρ)).toArray (ps.map fun p => (p.1, p.2.conc ρ)) = some (r.map (SV.conc ρ)).toArray
  | [], cs, r, h => by cases h; rfl
  | (i, x) :: ps, cs, r, h => by
    obtain ⟨p, hp, h⟩ := bindO_eq.1 (show bindO (pl i) (fun pl' => guardO (Nat.beq (len x.cells) pl'.2) (bindO (putS x.cells pl'.1 cs) (fillS pl ps))) = some r from h)
    obtain ⟨h1, h⟩ := guardO_eq.1 h
    obtain ⟨c2, h2, h5⟩ := bindO_eq.1 h
    have hn : x.cells.length = p.2 := by rw [← len_eq]; exact Nat.eq_of_beq_eq_true h1
    obtain ⟨g1, g2, -⟩ := putS_get _ _ h2
    have hc := cells_conc x ρ
    have hsz : (x.conc ρ).cells.size = x.cells.length := by rw [← Array.length_toList, hc]; simp
    obtain ⟨off, sz⟩ := p
    simp only [List.map_cons, Instr.fill, hp]
    rw [if_neg (by simp [hsz]; exact ⟨hn, by omega⟩)]
    rw [put_conc h2 _ hc]
    exact fill_conc h5
theorem fill_sc {n : Nat} {pl : Nat → Option (Nat × Nat)} : ∀ {ps : List (Nat × SV)} {cs r : List SV}, fillS pl ps cs = some r → (∀ p ∈ ps, Sc n p.2) → (∀ x ∈ cs, Sc n x) → ∀ x ∈ r, Sc n x
  | [], cs, r, h, _, hc => by cases h; exact hc
  | (i, x) :: ps, cs, r, h, hp, hc => by
    obtain ⟨p, hpl, h⟩ := bindO_eq.1 (show bindO (pl i) (fun pl' => guardO (Nat.beq (len x.cells) pl'.2) (bindO (putS x.cells pl'.1 cs) (fillS pl ps))) = some r from h)
    obtain ⟨h1, h⟩ := guardO_eq.1 h
    obtain ⟨c2, h2, h⟩ := bindO_eq.1 h
    obtain ⟨-, -, g3⟩ := putS_get _ _ h2
    refine fill_sc h (fun q hq => hp q (List.mem_cons_of_mem _ hq)) fun y hy => ?_
    obtain ⟨j, hj⟩ := List.mem_iff_getElem?.1 hy
    rw [g3 j] at hj
    split at hj
    · exact Sc.cells (hp _ List.mem_cons_self) y (List.mem_of_getElem? hj)
    · exact hc y (List.mem_of_getElem? hj)
theorem zero_conc {t : TypeId} {z : List SV} (h : zeroOf P t = some z) : ∃ i zv, P.info? t = some i ∧ i.zero = some zv ∧ (z.map (SV.conc ρ)).toArray = zv.cells ∧ ∀ n, ∀ x ∈ z, Sc n x := by
  obtain ⟨i, h1, h⟩ := bindO_eq.1 h
  obtain ⟨zv, h2, h⟩ := bindO_eq.1 h
  cases h
  refine ⟨i, zv, h1, h2, ?_, fun n x hx => ?_⟩
  · rw [valsOf_eq]
    apply Array.ext'
    simp [Function.comp_def, conc_v]
  · rw [valsOf_eq] at hx
    obtain ⟨y, -, rfl⟩ := List.mem_map.1 hx
    exact Sc.v _ _
theorem opps_ok (he : EnvOK ρ s a) (hh : HpOK ρ s.n s.heap w) {l : List (Nat × Operand)} {vs : List (Nat × SV)} (h : opps s.env l = some vs) :
    (l.map fun p => (p.1, a.eval p.2)) = vs.map (fun p => (p.1, p.2.conc ρ)) ∧ ∀ p ∈ vs, Sc s.n p.2 := by
  obtain ⟨h1, h2⟩ := mapO_eq.1 h
  constructor
  · refine List.ext_getElem? fun i => ?_
    cases hx : l[i]? with
    | none =>
      have : l.length ≤ i := by simpa using hx
      have : vs[i]? = none := by simp [h1, this]
      simp [hx, this]
    | some x =>
      obtain ⟨y, e1, e2⟩ := h2 i x hx
      obtain ⟨u, e3, e4⟩ := bindO_eq.1 e2
      cases e4
      simp [hx, e1, (opv_ok he hh e3).1]
  · intro v hv
    obtain ⟨i, hi⟩ := List.mem_iff_getElem?.1 hv
    have hlt : i < l.length := by rw [← h1]; exact (List.getElem?_eq_some_iff.1 hi).1
    obtain ⟨y, e1, e2⟩ := h2 i _ (List.getElem?_eq_getElem hlt)
    rw [hi] at e1
    cases e1
    obtain ⟨u, e3, e4⟩ := bindO_eq.1 e2
    cases e4
    exact (opv_ok he hh e3).2
theorem parts_list (f : Operand → Value) (ps : Array (Nat × Operand)) : (ps.map fun (i, x) => (i, f x)).toList = ps.toList.map fun p => (p.1, f p.2) := by simp
theorem build_ok (he : EnvOK ρ s a) (hh : HpOK ρ s.n s.heap w) {t : TypeId} {ps : Array (Nat × Operand)} (h : buildS P s t ps = some v) :
    (Instr.build t (ps.map fun (i, x) => (i, a.eval x))).run P w = .ok (v.conc ρ) w ∧ Sc s.n v := by
  obtain ⟨z, hz, h⟩ := bindO_eq.1 h
  obtain ⟨vs, hvs, h⟩ := bindO_eq.1 h
  obtain ⟨pl, hpl, h⟩ := bindO_eq.1 h
  obtain ⟨cs, hcs, h⟩ := bindO_eq.1 h
  cases h
  obtain ⟨i, zv, hi, hzv, hzc, hzs⟩ := zero_conc (ρ := ρ) hz
  obtain ⟨e, hs⟩ := opps_ok he hh hvs
  refine ⟨?_, Sc.agg (fill_sc hcs hs (hzs s.n))⟩
  rw [conc_agg]
  refine run_build w t _ _ ?_
  rw [parts_list, e]
  have hf := fill_conc (ρ := ρ) hcs
  rw [hzc] at hf
  unfold placesOf at hpl
  unfold Program.built
  rw [hi]
  split at hpl
  · rename_i fs hu
    obtain ⟨l, hl, hpl⟩ := bindO_eq.1 hpl
    cases hpl
    simp only [hu, hzv, hl]
    simpa using hf
  · rename_i n el hu
    obtain ⟨m, hm, hpl⟩ := bindO_eq.1 hpl
    cases hpl
    obtain ⟨j, hj, hm⟩ := bindO_eq.1 hm
    cases hm
    simp only [hu, hzv, hj]
    exact hf
  · cases hpl
end Go.Ex

/- The runner's operators: they do what the model's do. -/
namespace Go.Ex
open Go
variable {P : Program} {cx : Cx} {o : Oper} {s s' : St} {v : SV} {ρ : Va} {a : Act} {w : World}

theorem wrap_i64 {n : Int} (h0 : -9223372036854775808 ≤ n) (h1 : n ≤ 9223372036854775807) : IntKind.i64.wrap n = n := by
  have e1 : (2 : Int) ^ IntKind.i64.bits = 18446744073709551616 := by decide
  have e2 : (2 : Int) ^ (IntKind.i64.bits - 1) = 9223372036854775808 := by decide
  simp only [IntKind.wrap, e1, e2, IntKind.signed, Bool.true_and, decide_eq_true_eq]
  split <;> omega
theorem wrap_u64 (n : Int) : IntKind.u64.wrap n = n % 18446744073709551616 := by simp [IntKind.wrap, IntKind.bits, IntKind.signed]
theorem wrap_u32 (n : Int) : IntKind.u32.wrap n = n % 4294967296 := by simp [IntKind.wrap, IntKind.bits, IntKind.signed]
theorem wrap_u8 (n : Int) : IntKind.u8.wrap n = n % 256 := by simp [IntKind.wrap, IntKind.bits, IntKind.signed]
theorem wrapF_ok {k : IntKind} {n : Nat} {r : Value} (h : wrapF k n = some r) : r = .int k (k.wrap (n : Int)) := by
  unfold wrapF at h
  split at h
  · obtain ⟨h1, h⟩ := guardO_eq.1 h
    rw [force_eq] at h
    cases h
    have hle : n ≤ 9223372036854775807 := Nat.le_of_ble_eq_true h1
    rw [wrap_i64 (by omega) (by omega)]
    rfl
  · unfold wrapU at h; rw [force_eq] at h; cases h; rw [wrap_u64]; rfl
  · unfold wrapU at h; rw [force_eq] at h; cases h; rw [wrap_u32]; rfl
  · unfold wrapU at h; rw [force_eq] at h; cases h; rw [wrap_u8]; rfl
  · cases h
theorem sub_mod {a b m : Nat} (hm : 0 < m) (h : b ≤ m) : ((a : Int) - b) % (m : Int) = ((a + m - b) % m : Nat) := by
  rw [show (((a + m - b) % m : Nat) : Int) = ((a + m - b : Nat) : Int) % (m : Int) from rfl, Int.ofNat_sub (by omega)]
  have : ((a + m : Nat) : Int) - b = ((a : Int) - b) + m := by omega
  rw [this, Int.add_emod_right]
theorem subU_ok {k : IntKind} {m a b : Nat} {r : Value} (hm : 0 < m) (hk : ∀ n : Int, k.wrap n = n % (m : Int)) (h : subU k m a b = some r) : r = .int k (k.wrap ((a : Int) - b)) := by
  unfold subU at h
  rw [hk]
  rcases ble_dec b a with ⟨e, hle⟩ | ⟨e, hlt⟩
  · rw [e, ifB_true] at h
    unfold wrapU at h
    rw [force_eq] at h
    cases h
    have : (a : Int) - b = ((a - b : Nat) : Int) := by omega
    rw [this]
    rfl
  · rw [e, ifB_false] at h
    obtain ⟨h1, h⟩ := guardO_eq.1 h
    unfold wrapU at h
    rw [force_eq] at h
    cases h
    rw [sub_mod hm (Nat.le_of_ble_eq_true h1)]
    rfl
theorem subF_ok {k : IntKind} {a b : Nat} {r : Value} (h : subF k a b = some r) : r = .int k (k.wrap ((a : Int) - b)) := by
  unfold subF at h
  split at h
  · obtain ⟨h1, h⟩ := guardO_eq.1 h
    obtain ⟨h2, h⟩ := guardO_eq.1 h
    have ha : a ≤ 9223372036854775807 := Nat.le_of_ble_eq_true h1
    have hb : b ≤ 9223372036854775807 := Nat.le_of_ble_eq_true h2
    rw [wrap_i64 (by omega) (by omega)]
    rcases ble_dec b a with ⟨e, hle⟩ | ⟨e, hlt⟩
    · rw [e, ifB_true, force_eq] at h
      cases h
      congr 1
      show ((a - b : Nat) : Int) = _
      omega
    · rw [e, ifB_false, force_eq] at h
      cases h
      congr 1
      show -((Nat.pred (b - a) : Nat) + 1 : Int) = _
      rw [Nat.pred_eq_sub_one]
      omega
  · exact subU_ok (by decide) wrap_u64 h
  · exact subU_ok (by decide) wrap_u32 h
  · exact subU_ok (by decide) wrap_u8 h
  · cases h
theorem boolV_eq (b : Bool) : boolV b = some (.bool b) := by cases b <;> rfl
theorem ble_decide (a b : Nat) : Nat.ble a b = decide ((a : Int) ≤ b) := by
  rcases ble_dec a b with ⟨e, h⟩ | ⟨e, h⟩
  · rw [e]; exact (decide_eq_true (by omega)).symm
  · rw [e]; exact (decide_eq_false (by omega)).symm
theorem blt_decide (a b : Nat) : Nat.ble (Nat.succ a) b = decide ((a : Int) < b) := by
  rcases ble_dec (a + 1) b with ⟨e, h⟩ | ⟨e, h⟩
  · exact e.trans (decide_eq_true (by omega)).symm
  · exact e.trans (decide_eq_false (by omega)).symm
theorem beq_decide (a b : Nat) : Nat.beq a b = ((a : Int) == b) := by
  rcases beq_dec a b with ⟨e, h⟩ | ⟨e, h⟩
  · rw [e]; subst h; simp
  · rw [e]
    symm
    rw [beq_eq_false_iff_ne]
    omega
theorem natOp_ok {op : BinOp} {k : IntKind} {a b : Nat} {r : Value} (h : natOp op k a b = some r) (t : TypeId) : binOp op t (.int k (a : Int)) (.int k (b : Int)) = pure r := by
  unfold natOp at h
  split at h
  · rw [binOp_add, wrapF_ok h]; rfl
  · rw [binOp_sub, subF_ok h]; rfl
  · rw [binOp_mul, wrapF_ok h]; rfl
  · rw [boolV_eq] at h; cases h; rw [binOp_eql, beq_decide]
  · rw [boolV_eq] at h; cases h; rw [binOp_neq, beq_decide]; rfl
  · rw [boolV_eq] at h; cases h; rw [binOp_lss, blt_decide]
  · rw [boolV_eq] at h; cases h; rw [binOp_leq, ble_decide]
  · rw [boolV_eq] at h; cases h; rw [binOp_gtr, blt_decide]
  · rw [boolV_eq] at h; cases h; rw [binOp_geq, ble_decide]
  · cases h
theorem intOp_ok {op : BinOp} {k : IntKind} {x y : Int} {r : Value} (h : intOp op k x y = some r) (t : TypeId) : binOp op t (.int k x) (.int k y) = pure r := by
  unfold intOp at h
  split at h
  · exact natOp_ok h t
  · cases h
theorem fastBin_ok {op : BinOp} {x y r : Value} (h : fastBin op x y = some r) (t : TypeId) (p q : Operand) (w : World) : ((do eqGuard op t p q x y; binOp op t x y) : Sem Value).run P w = .ok r w := by
  unfold fastBin at h
  split at h
  · rename_i k m l n
    obtain ⟨h1, h2⟩ := guardO_eq.1 h
    clear h
    have hk : k = l := of_decide_eq_true h1
    subst hk
    rw [eqGuard_at_int, intOp_ok h2 t]
    rfl
  · cases h
theorem floatBin_ok (op : BinOp) (t : TypeId) (x y : Nat) : binOp op t (.float .f64 x) (.float .f64 y) = floatBin op x y := by cases op <;> simp [binOp, floatBin]
theorem valBin_ok {op : BinOp} {t : TypeId} {p q : Operand} {x y : Value} {r : SV} (h : valBin P op t p q x y = some r) (w : World) : ∃ u, r = .v u ∧ ((do eqGuard op t p q x y; binOp op t x y) : Sem Value).run P w = .ok u w := by
  unfold valBin at h
  split at h
  · obtain ⟨u, rfl, hu⟩ := pureOp_eq h
    refine ⟨u, rfl, ?_⟩
    rw [eqGuard_at_float, floatBin_ok]
    simpa using hu w
  · cases hf : fastBin op x y with
    | some r' =>
      rw [hf] at h
      cases h
      exact ⟨r', rfl, fastBin_ok hf t p q w⟩
    | none =>
      rw [hf] at h
      obtain ⟨u, hu0, hu⟩ := pureOp_eq (show slowBin P op t p q x y = some r from h)
      exact ⟨u, hu0, hu w⟩
theorem refEq_ok {op : BinOp} {r : SV} (h : refEq op = some r) : (op = .eql ∧ r = .v (.bool false)) ∨ (op = .neq ∧ r = .v (.bool true)) := by
  unfold refEq at h
  split at h
  · cases h; exact .inl ⟨rfl, rfl⟩
  · cases h; exact .inr ⟨rfl, rfl⟩
  · cases h
theorem equal_run {t : TypeId} {x y : Value} {b : Bool} (h : ∀ d, (Op.equalIn (d + 1) t x y).run P w = .ok b w) : (Op.equal t x y).run P w = .ok b w := h 9999
theorem eq_ops {op : BinOp} {t : TypeId} {x y : Value} {r : SV} (hr : refEq op = some r) (h : (Op.equal t x y).run P w = .ok false w) (he : binOp .eql t x y = (do pure (.bool (← Op.equal t x y)))) (hn : binOp .neq t x y = (do pure (.bool (!(← Op.equal t x y))))) :
    (binOp op t x y).run P w = .ok (r.conc ρ) w := by
  rcases refEq_ok hr with ⟨rfl, rfl⟩ | ⟨rfl, rfl⟩
  · rw [he, conc_v]; simp [h]
  · rw [hn, conc_v]; simp [h]
theorem refEq_sc {op : BinOp} {r : SV} {n : Nat} (h : refEq op = some r) : Sc n r := by rcases refEq_ok h with ⟨-, rfl⟩ | ⟨-, rfl⟩ <;> exact Sc.v _ _
theorem refNil_ok {n : Nat} {op : BinOp} {t : TypeId} {p q : Operand} {x : SV} {y : Value} {r : SV} (h : refNil P op t x y = some r) : ((do eqGuard op t p q (x.conc ρ) y; binOp op t (x.conc ρ) y) : Sem Value).run P w = .ok (r.conc ρ) w ∧ Sc n r := by
  unfold refNil at h
  split at h
  · rename_i b off e hu
    refine ⟨?_, refEq_sc h⟩
    rw [conc_ptr, eqGuard_at_pointer]
    have : (Op.equal t (.pointer (some ⟨ρ.blk b, off, none⟩)) (.pointer none)).run P w = .ok false w := equal_run fun d => by simp [Op.equalIn, run_underlying hu]
    simpa using eq_ops (ρ := ρ) h this rfl rfl
  · rename_i b off k c l m e hu
    refine ⟨?_, refEq_sc h⟩
    have hcc : ∃ cp, (SV.sl b off k c).conc ρ = .slice (some ⟨ρ.blk b, off, none⟩) k cp := by cases c <;> exact ⟨_, by first | exact conc_ex _ _ _ _ _ | exact conc_un _ _ _ _ _⟩
    obtain ⟨cp, hcp⟩ := hcc
    rw [hcp, eqGuard_at_slice]
    have : (Op.equal t (.slice (some ⟨ρ.blk b, off, none⟩) k cp) (.slice none l m)).run P w = .ok false w := equal_run fun d => by simp [Op.equalIn, run_underlying hu]
    simpa using eq_ops (ρ := ρ) h this rfl rfl
  · rename_i f c d e1 e2 e3 hu
    refine ⟨?_, refEq_sc h⟩
    rw [conc_fn, eqGuard_at_func]
    have : (Op.equal t (.func (.func f) (c.map (SV.conc ρ)).toArray (d.map (SV.conc ρ)).toArray) .nilFunc).run P w = .ok false w := equal_run fun d => by simp [Op.equalIn, run_underlying hu]
    simpa using eq_ops (ρ := ρ) h this rfl rfl
  · cases h
theorem bin_ok (he : EnvOK ρ s a) (hh : HpOK ρ s.n s.heap w) {op : BinOp} {t : TypeId} {x y : Operand} (h : (bindO (opv s.env x) fun a => bindO (opv s.env y) fun b => binS P op t x y a b) = some v) :
    ((do eqGuard op t x y (a.eval x) (a.eval y); binOp op t (a.eval x) (a.eval y)) : Sem Value).run P w = .ok (v.conc ρ) w ∧ Sc s.n v := by
  obtain ⟨p, hp, h⟩ := bindO_eq.1 h
  obtain ⟨q, hq, h⟩ := bindO_eq.1 h
  rw [(opv_ok he hh hp).1, (opv_ok he hh hq).1]
  unfold binS at h
  cases hf : p.flat with
  | none =>
    rw [hf] at h
    obtain ⟨y', hy, h⟩ := bindO_eq.1 (show (bindO q.flat fun w => refNil P op t p w) = some v from h)
    rw [flat_conc hy ρ]
    exact refNil_ok h
  | some u =>
    rw [hf] at h
    obtain ⟨y', hy, h⟩ := bindO_eq.1 (show (bindO q.flat fun w => valBin P op t x y u w) = some v from h)
    rw [flat_conc hy ρ, flat_conc hf ρ]
    obtain ⟨r, rfl, hr⟩ := valBin_ok h w
    rw [conc_v]
    exact ⟨hr, Sc.v _ _⟩

/-! ### Slices of slices and strings -/
theorem optNat_ok {x : Option SV} {d n : Nat} (h : optNat x d = some n) : (x = none ∧ n = d) ∨ ∃ k, x = some (.v (.int k (n : Int))) := by
  cases x with
  | none => cases h; exact .inl ⟨rfl, rfl⟩
  | some x =>
    obtain ⟨k, hk⟩ := natOf_eq (show natOf x = some n from h)
    exact .inr ⟨k, by rw [hk]⟩
theorem bounds_run {len cap : Nat} {lo hi : Option SV} {l h : Nat} (hl : optNat lo 0 = some l) (hh : optNat hi len = some h) (h1 : l ≤ h) (h2 : h ≤ cap) :
    (Instr.sliceBounds true len cap (lo.map (SV.conc ρ)) (hi.map (SV.conc ρ)) none).run P w = .ok (l, h, cap) w := by
  have bnd : ∀ (k : IntKind) (i y : Nat) (c : BoundsCode), i ≤ y → (Instr.sliceBound (.int k (i : Int)) y c).run P w = .ok i w := fun k i y c hi => by
    have : (i : Int) ≤ (y : Int) := by omega
    simp [Instr.sliceBound, asIntOf, hi]
  rcases optNat_ok hl with ⟨rfl, rfl⟩ | ⟨k, rfl⟩ <;> rcases optNat_ok hh with ⟨rfl, rfl⟩ | ⟨m, rfl⟩
  · simp [Instr.sliceBounds]
  · simp [Instr.sliceBounds, conc_v, bnd _ _ _ _ h2]
  · simp [Instr.sliceBounds, conc_v, bnd _ _ _ _ h1]
  · simp [Instr.sliceBounds, conc_v, bnd _ _ _ _ h2, bnd _ _ _ _ h1]
theorem slice_any {t e : TypeId} (hu : P.underlying t = some (.slice e)) {z : Nat} (hz : sizeT P e = some z) {A : Option Addr} {len cap : Nat} {lo hi : Option SV} {l h : Nat} (hl : optNat lo 0 = some l) (hh : optNat hi len = some h) (h1 : l ≤ h) (h2 : h ≤ cap) :
    (Instr.sliceAt t (.slice A len cap) (lo.map (SV.conc ρ)) (hi.map (SV.conc ρ)) none).run P w = .ok (.slice (if cap = l then A else A.map (·.add (l * z))) (h - l) (cap - l)) w := by
  simp only [Instr.sliceAt, Sem.run_bind, run_underlying hu, Result.andThen_ok, Instr.slice, bounds_run hl hh h1 h2, sizeOf_run hz, Sem.run_pure]
theorem un_room {l : List Hp} {n b off len k z : Nat} (hh : HpOK ρ n l w) (h : unRoom l b off len k z = true) : len ≤ ρ.cap b - k := by
  unfold unRoom at h
  cases hb : hget l b with
  | none => rw [hb] at h; cases h
  | some bl =>
    rw [hb] at h
    replace h : ifB (Nat.beq bl.sz z) (ifB (Nat.ble 1 z) (ifB (Nat.beq off (Nat.mul k z)) (Nat.ble (Nat.add off (Nat.mul len z)) (Go.Ex.len bl.cells)) false) false) false = true := h
    rcases beq_dec bl.sz z with ⟨e1, hz⟩ | ⟨e1, -⟩
    case inr => rw [e1] at h; cases h
    rw [e1, ifB_true] at h
    rcases ble_dec 1 z with ⟨e2, h1⟩ | ⟨e2, -⟩
    case inr => rw [e2] at h; cases h
    rw [e2, ifB_true] at h
    rcases beq_dec off (Nat.mul k z) with ⟨e3, h3⟩ | ⟨e3, -⟩
    case inr => rw [e3] at h; cases h
    rw [e3, ifB_true] at h
    have h4 := Nat.le_of_ble_eq_true h
    rw [len_eq] at h4
    obtain ⟨arr, e, fz, g1, g2, -, g4⟩ := hh.bk b bl hb
    have g5 := g4 (by omega)
    have hle : bl.cells.length ≤ arr.size := by
      rcases Nat.lt_or_ge arr.size bl.cells.length with hlt | hge
      · have hx := g2 arr.size _ (List.getElem?_eq_getElem hlt)
        simp at hx
      · exact hge
    have h5 : (k + len) * z ≤ ρ.cap b * z := by
      have e6 : k * z + len * z ≤ bl.cells.length := by rw [← show off = k * z from h3]; exact h4
      rw [Nat.add_mul]
      have e7 : ρ.cap b * z = arr.size := by rw [g5, hz, Nat.mul_comm]
      omega
    have := Nat.le_of_mul_le_mul_right h5 (by omega)
    omega
theorem cutRow_ok {H : List Hp} {m n b off len : Nat} {cap : Cp} {z l h : Nat} {r : SV} (hb : Sc n (.sl b off len cap)) {t e : TypeId} (hu : P.underlying t = some (.slice e)) (hz : sizeT P e = some z) {lo hi : Option SV} (hl : optNat lo 0 = some l) (hhi : optNat hi len = some h)
    (hr : cutRow H b off len cap z l h = some r) (hp : HpOK ρ m H w) : (Instr.sliceAt t ((SV.sl b off len cap).conc ρ) (lo.map (SV.conc ρ)) (hi.map (SV.conc ρ)) none).run P w = .ok (r.conc ρ) w := by
  cases cap with
  | ex c =>
    obtain ⟨h1, hr⟩ := guardO_eq.1 (show guardO (Nat.ble l h) (guardO (Nat.ble h c) (force (ifB (Nat.beq c l) off (Nat.add off (Nat.mul l z))) fun o => force (Nat.sub h l) fun m => force (Nat.sub c l) fun c => some (SV.sl b o m (.ex c)))) = some r from hr)
    obtain ⟨h2, hr⟩ := guardO_eq.1 hr
    simp only [force_eq] at hr
    cases hr
    rw [conc_ex, conc_ex, slice_any hu hz hl hhi (Nat.le_of_ble_eq_true h1) (Nat.le_of_ble_eq_true h2)]
    rcases beq_dec c l with ⟨e1, rfl⟩ | ⟨e1, hne⟩
    · rw [e1, ifB_true, if_pos rfl]; rfl
    · rw [e1, ifB_false, if_neg hne]
      simp only [Option.map_some, Addr.add_lit]
      rfl
  | un k =>
    obtain ⟨h0, hr⟩ := guardO_eq.1 (show guardO (unRoom H b off len k z) (guardO (Nat.ble l h) (guardO (Nat.ble h len) (guardO (ifB (Nat.beq l 0) true (Nat.ble (Nat.succ l) len)) (force (Nat.add off (Nat.mul l z)) fun o => force (Nat.sub h l) fun m => force (Nat.add k l) fun k => some (SV.sl b o m (.un k)))))) = some r from hr)
    obtain ⟨h1, hr⟩ := guardO_eq.1 hr
    obtain ⟨h2, hr⟩ := guardO_eq.1 hr
    obtain ⟨h3, hr⟩ := guardO_eq.1 hr
    simp only [force_eq] at hr
    cases hr
    have hc := un_room hp h0
    have g2 := Nat.le_of_ble_eq_true h2
    rw [conc_un, conc_un, slice_any hu hz hl hhi (Nat.le_of_ble_eq_true h1) (by omega)]
    have e2 : ρ.cap b - k - l = ρ.cap b - (k + l) := by omega
    rcases beq_dec l 0 with ⟨e1, rfl⟩ | ⟨e1, hne⟩
    · simp only [Option.map_some, Nat.zero_mul, Addr.add_lit, ite_self]
      have e3 : Nat.add off (Nat.mul 0 z) = off := by show off + 0 * z = off; simp
      rw [e3, e2]
      simp
    · rw [e1, ifB_false] at h3
      have g3 : l + 1 ≤ len := Nat.le_of_ble_eq_true h3
      rw [if_neg (by omega), e2]
      simp only [Option.map_some, Addr.add_lit]
      rfl
theorem cutText_ok {t : TypeId} {bs : ByteArray} {lo hi : Option SV} {r : SV} {n : Nat} (h : cutText P t bs lo hi = some r) : (Instr.sliceAt t (.string bs) (lo.map (SV.conc ρ)) (hi.map (SV.conc ρ)) none).run P w = .ok (r.conc ρ) w ∧ Sc n r := by
  unfold cutText at h
  split at h
  · obtain ⟨u, rfl, hu⟩ := pureOp_eq h
    exact ⟨(hu w).trans (by rw [conc_v]), Sc.v _ _⟩
  · obtain ⟨x, hx, h⟩ := bindO_eq.1 h
    obtain ⟨u, rfl, hu⟩ := pureOp_eq h
    refine ⟨?_, Sc.v _ _⟩
    rw [Option.map_some, flat_conc hx ρ, conc_v]
    exact hu w
  · obtain ⟨x, hx, h⟩ := bindO_eq.1 h
    obtain ⟨u, rfl, hu⟩ := pureOp_eq h
    refine ⟨?_, Sc.v _ _⟩
    rw [Option.map_some, flat_conc hx ρ, conc_v]
    exact hu w
  · obtain ⟨x, hx, h⟩ := bindO_eq.1 h
    obtain ⟨y, hy, h⟩ := bindO_eq.1 h
    obtain ⟨u, rfl, hu⟩ := pureOp_eq h
    refine ⟨?_, Sc.v _ _⟩
    rw [Option.map_some, Option.map_some, flat_conc hx ρ, flat_conc hy ρ, conc_v]
    exact hu w
theorem sl_sc {n b off k off' k' : Nat} {c c' : Cp} (h : Sc n (.sl b off k c)) (hb : b < n) : Sc n (.sl b off' k' c') := Sc.sl hb
theorem sliceS_ok {n : Nat} {H : List Hp} (hp : HpOK ρ n H w) {t : TypeId} {x : SV} {lo hi : Option SV} {r : SV} (hs : Sc n x) (h : sliceS P H t x lo hi = some r) :
    (Instr.sliceAt t (x.conc ρ) (lo.map (SV.conc ρ)) (hi.map (SV.conc ρ)) none).run P w = .ok (r.conc ρ) w ∧ Sc n r := by
  unfold sliceS at h
  split at h
  · rw [conc_v]; exact cutText_ok h
  · obtain ⟨e, he, h⟩ := bindO_eq.1 h
    obtain ⟨z, hz, h⟩ := bindO_eq.1 h
    obtain ⟨l, hl, h⟩ := bindO_eq.1 h
    obtain ⟨k, hk, h⟩ := bindO_eq.1 h
    obtain ⟨h1, h⟩ := guardO_eq.1 h
    obtain ⟨h2, h⟩ := guardO_eq.1 h
    cases h
    obtain rfl : l = 0 := Nat.eq_of_beq_eq_true h1
    obtain rfl : k = 0 := Nat.eq_of_beq_eq_true h2
    refine ⟨?_, Sc.v _ _⟩
    have hu := elemOfT_eq he
    rw [conc_v, slice_any hu hz hl hk (Nat.le_refl _) (Nat.le_refl _)]
    simp
  · rename_i b off k c
    obtain ⟨e, he, h⟩ := bindO_eq.1 h
    obtain ⟨z, hz, h⟩ := bindO_eq.1 h
    obtain ⟨l, hl, h⟩ := bindO_eq.1 h
    obtain ⟨m, hm, h⟩ := bindO_eq.1 h
    refine ⟨cutRow_ok hs (elemOfT_eq he) hz hl hm h hp, ?_⟩
    have hbn := hs.sl_lt
    unfold cutRow at h
    split at h
    · obtain ⟨-, h⟩ := guardO_eq.1 h
      obtain ⟨-, h⟩ := guardO_eq.1 h
      simp only [force_eq] at h
      cases h
      exact Sc.sl hbn
    · obtain ⟨-, h⟩ := guardO_eq.1 h
      obtain ⟨-, h⟩ := guardO_eq.1 h
      obtain ⟨-, h⟩ := guardO_eq.1 h
      obtain ⟨-, h⟩ := guardO_eq.1 h
      simp only [force_eq] at h
      cases h
      exact Sc.sl hbn
  · cases h
theorem slice_ok (he : EnvOK ρ s a) (hh : HpOK ρ s.n s.heap w) {t : TypeId} {x : Operand} {lo hi mx : Option Operand} (h : sliceOp P s.heap s.env t x lo hi mx = some v) :
    (Instr.sliceAt t (a.eval x) (lo.map a.eval) (hi.map a.eval) (mx.map a.eval)).run P w = .ok (v.conc ρ) w ∧ Sc s.n v := by
  unfold sliceOp at h
  split at h
  · obtain ⟨u, hu, h⟩ := bindO_eq.1 h
    obtain ⟨e, hs⟩ := opv_ok he hh hu
    have ho : ∀ {x : Option Operand} {K : Option SV → Option SV} {r : SV}, optS s.env x K = some r → ∃ y, K y = some r ∧ x.map a.eval = y.map (SV.conc ρ) := by
      intro x K r h
      cases x with
      | none => exact ⟨none, h, rfl⟩
      | some x =>
        obtain ⟨y, hy, h⟩ := bindO_eq.1 (show (bindO (opv s.env x) fun v => K (some v)) = some r from h)
        exact ⟨some y, h, congrArg some (opv_ok he hh hy).1⟩
    obtain ⟨l, h, el⟩ := ho h
    obtain ⟨m, h, em⟩ := ho h
    rw [e, el, em]
    exact sliceS_ok hh hs h
  · cases h

/-! ### len, and the builtins that look at values alone -/
theorem len_ok {n : Nat} {t ty : TypeId} {x r : SV} (h : lenS P t x = some r) : (Builtin.len_ #[t] ty #[x.conc ρ]).run P w = .ok (r.conc ρ) w ∧ Sc n r := by
  unfold lenS at h
  split at h
  · rename_i b off k c
    obtain ⟨e, he, h⟩ := bindO_eq.1 h
    cases h
    refine ⟨?_, Sc.v _ _⟩
    have hu := elemOfT_eq he
    rw [conc_v]
    cases c <;> simp [conc_ex, conc_un, Builtin.len_, run_underlying hu, goInt]
  · obtain ⟨u, rfl, hu⟩ := pureOp_eq h
    refine ⟨?_, Sc.v _ _⟩
    rw [conc_v, conc_v]
    exact hu w
  · cases h
theorem asVal_ok {x : Next} {r : SV} (h : asVal x = some r) : ∃ u, x = .value u ∧ r = .v u := by
  unfold asVal at h
  split at h
  · rw [bareV_eq] at h
    cases h
    exact ⟨_, rfl, rfl⟩
  · cases h
theorem bytes_row : ∀ (l : List UInt8), bytesS l = l.map fun b => SV.v (.int .u8 (b.toNat : Int))
  | [] => rfl
  | b :: l => by
    show force b.toNat (fun n => SV.v (.int .u8 (.ofNat n))) :: bytesS l = _
    rw [force_eq, bytes_row l]
    rfl
end Go.Ex

/- The runner's operations that lay or write memory: they do what the model's do. -/
namespace Go.Ex
open Go
variable {P : Program} {cx : Cx} {o : Oper} {s s' : St} {v : SV} {ρ : Va} {a : Act} {w : World}

theorem BkOK.move {ρ ρ' : Va} {w w' : World} {b n : Nat} {bl : B} (h : BkOK ρ w b bl) (hb : b < n) (hs : ∀ x ∈ bl.cells, Sc n x) (ha : Agr n ρ ρ') (hw : w'.heap[ρ.blk b]? = w.heap[ρ.blk b]?) : BkOK ρ' w' b bl := by
  obtain ⟨arr, e, fz, h1, h2, h3, h4⟩ := h
  refine ⟨arr, e, fz, by rw [(ha b hb).1, hw, h1], fun i x hx => ?_, h3, fun hz => by rw [(ha b hb).2]; exact h4 hz⟩
  rw [hs x (List.mem_of_getElem? hx) ρ ρ' ha]
  exact h2 i x hx
theorem BkOK.lt {ρ : Va} {w : World} {b : Nat} {bl : B} (h : BkOK ρ w b bl) : ρ.blk b < w.heap.size := by
  obtain ⟨arr, e, fz, h1, -, -, -⟩ := h
  exact (Array.getElem?_eq_some_iff.1 h1).1
def Va.put (ρ : Va) (n blk cap : Nat) : Va := ⟨fun b => if b = n then blk else ρ.blk b, fun b => if b = n then cap else ρ.cap b⟩
theorem Va.put_agr (ρ : Va) (n blk cap : Nat) : Agr n ρ (ρ.put n blk cap) := fun b hb => ⟨if_neg (by omega), if_neg (by omega)⟩
/-- What was there stays. -/
structure Old (w w' : World) : Prop where
  blk : ∀ r, r < w.heap.size → w'.heap[r]? = w.heap[r]?
  side : Side w w'
/-- New memory. -/
theorem new_step {n : Nat} {H : List Hp} (hh : HpOK ρ n H w) {w' : World} {cs : List SV} {sz cap : Nat} (hs : ∀ x ∈ cs, Sc n x) (hold : Old w w') {arr : Array Value} {e : TypeId} {fz : Nat × Nat}
    (hnew : w'.heap[w.heap.size]? = some (.cells arr e fz)) (hcs : ∀ (i : Nat) (x : SV), cs[i]? = some x → arr[i]? = some (x.conc ρ)) (hfz : Lo fz arr.size) (hsz : sz ≠ 0 → arr.size = sz * cap) :
    HpOK (ρ.put n w.heap.size cap) (n + 1) (⟨n, ⟨cs, sz⟩⟩ :: H) w' ∧ Ext [] ρ n H w (ρ.put n w.heap.size cap) (n + 1) (⟨n, ⟨cs, sz⟩⟩ :: H) w' := by
  have ha := Va.put_agr ρ n w.heap.size cap
  have hlt : w.heap.size < w'.heap.size := (Array.getElem?_eq_some_iff.1 hnew).1
  have oldlt : ∀ b x, hget H b = some x → b < n := fun b x hx => hh.srt.lt hx
  have hblk : (ρ.put n w.heap.size cap).blk n = w.heap.size := if_pos rfl
  have hcap : (ρ.put n w.heap.size cap).cap n = cap := if_pos rfl
  constructor
  · refine ⟨⟨Nat.lt_succ_self n, hh.srt⟩, fun b bl hb => ?_, fun b bl hb => ?_, fun b b' x y hx hy hbb => ?_, fun g hg => ?_, Nat.le_succ_of_le hh.big⟩
    · rw [hget_cons] at hb
      split at hb
      · cases hb; exact fun x hx => (hs x hx).mono (Nat.le_succ n)
      · exact fun x hx => (hh.sc b bl hb x hx).mono (Nat.le_succ n)
    · rw [hget_cons] at hb
      split at hb
      · rename_i hbn
        subst hbn
        cases hb
        refine ⟨arr, e, fz, by rw [hblk]; exact hnew, fun i x hx => ?_, hfz, fun hz => by rw [hcap]; exact hsz hz⟩
        rw [hs x (List.mem_of_getElem? hx) ρ _ ha]
        exact hcs i x hx
      · have hk := hh.bk b bl hb
        exact hk.move (oldlt b bl hb) (hh.sc b bl hb) ha (hold.blk _ hk.lt)
    · have key : ∀ c z, hget H c = some z → (ρ.put n w.heap.size cap).blk c ≠ w.heap.size := fun c z hc => by
        rw [(ha c (oldlt c z hc)).1]
        exact Nat.ne_of_lt (hh.bk c z hc).lt
      rw [hget_cons] at hx hy
      split at hx <;> split at hy
      · omega
      · rename_i h1 h2
        subst h1
        rw [hblk] at hbb
        exact absurd hbb.symm (key _ _ hy)
      · rename_i h1 h2
        subst h2
        rw [hblk] at hbb
        exact absurd hbb (key _ _ hx)
      · rw [(ha b (oldlt b x hx)).1, (ha b' (oldlt b' y hy)).1] at hbb
        exact hh.inj b b' x y hx hy hbb
    · rw [(ha g (Nat.lt_of_lt_of_le hg hh.big)).1]; exact hh.glob g hg
  · refine ⟨Nat.le_succ n, Nat.le_of_lt hlt, fun b hb => ⟨if_neg (by omega), if_neg (by omega)⟩, fun b hb y hy => ?_, fun r hr _ => hold.blk r hr, fun b hb => (by cases hb), fun b hb y hy => ?_, hold.side⟩
    · rw [hget_cons, if_neg (by omega)] at hy
      exact ⟨y, hy⟩
    · rw [hget_cons] at hy
      split at hy
      · rename_i hbn
        subst hbn
        exact .inl (by rw [hblk]; exact Nat.le_refl _)
      · exact absurd (oldlt b y hy) (by omega)
/-- Cells of a known block written over. -/
theorem write_step {n b : Nat} {H : List Hp} (hh : HpOK ρ n H w) {bl : B} (hb : hget H b = some bl) {cs : List SV} (hl : cs.length = bl.cells.length) (hs : ∀ x ∈ cs, Sc n x) {w' : World} (hsz : w'.heap.size = w.heap.size ∧ Side w w')
    (hr : ∀ r, r ≠ ρ.blk b → w'.heap[r]? = w.heap[r]?) (hblk : ∀ arr e fz, w.heap[ρ.blk b]? = some (.cells arr e fz) → Lo fz arr.size → (∀ (i : Nat) (x : SV), bl.cells[i]? = some x → arr[i]? = some (x.conc ρ)) → ∃ arr' fz', w'.heap[ρ.blk b]? = some (.cells arr' e fz') ∧ Lo fz' arr.size ∧ arr'.size = arr.size ∧ ∀ (i : Nat) (x : SV), cs[i]? = some x → arr'[i]? = some (x.conc ρ)) :
    HpOK ρ n (hset H b ⟨cs, bl.sz⟩) w' ∧ Ext [b] ρ n H w ρ n (hset H b ⟨cs, bl.sz⟩) w' := by
  obtain ⟨hsz, hside⟩ := hsz
  have hg : ∀ c z, hget (hset H b ⟨cs, bl.sz⟩) c = some z → (c = b ∧ z = ⟨cs, bl.sz⟩) ∨ (c ≠ b ∧ hget H c = some z) := fun c z hc => by
    rw [hset_get] at hc
    split at hc
    · rename_i h
      subst h
      rw [hb] at hc
      cases hc
      exact .inl ⟨rfl, rfl⟩
    · rename_i h; exact .inr ⟨h, hc⟩
  have vis : ∀ c z, hget (hset H b ⟨cs, bl.sz⟩) c = some z → ∃ y, hget H c = some y := fun c z hc => by
    rcases hg c z hc with ⟨rfl, -⟩ | ⟨-, h⟩
    · exact ⟨bl, hb⟩
    · exact ⟨z, h⟩
  constructor
  · refine ⟨hset_srt b _ hh.srt, fun c z hc => ?_, fun c z hc => ?_, fun c c' x y hx hy hcc => ?_, hh.glob, hh.big⟩
    · rcases hg c z hc with ⟨rfl, rfl⟩ | ⟨-, h⟩
      · exact hs
      · exact hh.sc c z h
    · rcases hg c z hc with ⟨rfl, rfl⟩ | ⟨hne, h⟩
      · obtain ⟨arr, e, fz, h1, h2, h3, h4⟩ := hh.bk c bl hb
        obtain ⟨arr', fz', g1, g4, g2, g3⟩ := hblk arr e fz h1 h3 h2
        exact ⟨arr', e, fz', g1, g3, by rw [g2]; exact g4, fun hz => g2.trans (h4 hz)⟩
      · exact (hh.bk c z h).move (hh.srt.lt h) (hh.sc c z h) (fun _ _ => ⟨rfl, rfl⟩) (hr _ fun he => hne (hh.inj c b z bl h hb he))
    · obtain ⟨x', hx'⟩ := vis c x hx
      obtain ⟨y', hy'⟩ := vis c' y hy
      exact hh.inj c c' x' y' hx' hy' hcc
  · refine ⟨Nat.le_refl _, by omega, fun _ _ => ⟨rfl, rfl⟩, fun c _ y hy => vis c y hy, fun r hr' hno => hr r fun he => hno b List.mem_cons_self (hh.srt.lt hb) he.symm, fun c hc _ => ?_, fun c hc y hy => ?_, hside⟩
    · rw [List.mem_singleton] at hc
      subst hc
      exact ⟨bl, hb⟩
    · obtain ⟨y', hy'⟩ := vis c y hy
      exact absurd (hh.srt.lt hy') (by omega)
theorem setCells_heap (g : Nat) : ∀ (vs : List Value) (o : Nat) (w : World), ((w.setCells g o vs).heap.size = w.heap.size ∧ Side w (w.setCells g o vs)) ∧ (∀ r, r ≠ g → (w.setCells g o vs).heap[r]? = w.heap[r]?) ∧
    ∀ cur e fz, w.heap[g]? = some (.cells cur e fz) → o + vs.length ≤ cur.size → ∃ arr, (w.setCells g o vs).heap[g]? = some (.cells arr e fz) ∧ arr.size = cur.size ∧ ∀ i : Nat, arr[i]? = if o ≤ i ∧ i < o + vs.length then vs[i - o]? else cur[i]?
  | [], o, w => ⟨⟨rfl, Side.refl w⟩, fun _ _ => rfl, fun cur e fz h _ => ⟨cur, h, rfl, fun i => by simp; intro h1 h2; omega⟩⟩
  | v :: vs, o, w => by
    obtain ⟨h1, h2, h3⟩ := setCells_heap g vs (o + 1) (w.setCell ⟨g, o, none⟩ v)
    refine ⟨⟨h1.1.trans (by simp [World.setCell]), Side.trans (show Side w (w.setCell ⟨g, o, none⟩ v) from ⟨rfl, rfl, rfl⟩) h1.2⟩, fun r hr => (h2 r hr).trans ?_, fun cur e fz hc hl => ?_⟩
    · simp [World.setCell, Array.getElem?_modify, Ne.symm hr]
    · simp only [List.length_cons] at hl
      obtain ⟨arr, g1, g2, g3⟩ := h3 (cur.setIfInBounds o v) e fz (by simp [World.setCell, Array.getElem?_modify, hc]) (by simp; omega)
      refine ⟨arr, g1, g2.trans (by simp), fun i => ?_⟩
      rw [g3 i]
      by_cases hi : i = o
      · subst hi
        rw [if_neg (by omega), if_pos (by simp)]
        have : i < cur.size := by omega
        simp [this]
      · by_cases hc : o + 1 ≤ i ∧ i < o + 1 + vs.length
        · rw [if_pos hc, if_pos (by simp only [List.length_cons]; omega)]
          have : i - o = (i - (o + 1)) + 1 := by omega
          rw [this, List.getElem?_cons_succ]
        · rw [if_neg hc, if_neg (by simp only [List.length_cons]; omega)]
          simp [Array.getElem?_setIfInBounds_ne (Ne.symm hi)]
theorem isCell_one {x : SV} (h : x.isCell = true) (ρ : Va) : (x.conc ρ).oneCell' = true := by
  cases x with
  | v y => rw [conc_v]; cases y <;> first | rfl | (cases h)
  | ptr b off => rw [conc_ptr]; rfl
  | sl b off n c => cases c <;> simp only [conc_ex, conc_un] <;> rfl
  | fn f a c => rw [conc_fn]; rfl
  | agg cs => cases h
  | tup cs => cases h
theorem olds_one (n b : Nat) : olds n [b] = ifB (Nat.ble (Nat.succ b) n) [b] [] := rfl
theorem logged_eq (cx : Cx) (b : Nat) (l : List Nat) : logged cx b l = olds cx.base [b] ++ l := by
  rw [olds_one]
  unfold logged
  cases Nat.ble (Nat.succ b) cx.base <;> rfl
/-- What a piece that gives a value and may touch memory says. -/
structure Eff (cx : Cx) (s : St) (v : SV) (s' : St) (ρ : Va) (w : World) (ρ' : Va) (w' : World) : Prop where
  ext : ∃ L, Ext L ρ s.n s.heap w ρ' s'.n s'.heap w' ∧ s'.log = olds cx.base L ++ s.log
  hp : HpOK ρ' s'.n s'.heap w'
  env : s'.env = s.env
  sc : Sc s'.n v
  defs : s'.defs = s.defs
theorem OpOK.eff (h : ∀ ρ a w, EnvOK ρ s a → HpOK ρ s.n s.heap w → ∃ ρ' w', ((execOp a.eval o).run P w = .ok (.value (v.conc ρ')) w' ∨ ((execOp a.eval o).run P w = .ok .skip w' ∧ v = .v undef)) ∧ Eff cx s v s' ρ w ρ' w') : OpOK P cx o s v s' := by
  intro ρ a w he hh next Q hk
  obtain ⟨ρ', w', h1, e⟩ := h ρ a w he hh
  obtain ⟨L, hx, hlog⟩ := e.ext
  have hd : DefOK ρ' s'.n s'.defs a.defers := by rw [e.defs]; exact he.defs.move hx.le hx.ag
  have := hk ρ' w' a.defers L hx e.hp hlog e.env e.sc hd
  unfold Oper.wp
  rcases h1 with h1 | ⟨h1, rfl⟩
  · rw [h1, Oper.upon_value]; exact this
  · rw [h1, Oper.upon_skip]; rw [conc_v] at this; exact this
theorem storeC_ok {b off : Nat} {vs : List SV} (hh : HpOK ρ s.n s.heap w) (hv : ∀ x ∈ vs, Sc s.n x) (hc : ∀ x ∈ vs, x.isCell = true) (h : storeC cx b off vs s = some s') :
    ∃ w', (storeCells ⟨ρ.blk b, off, none⟩ (vs.map (SV.conc ρ))).run P w = .ok () w' ∧ HpOK ρ s'.n s'.heap w' ∧ Ext [b] ρ s.n s.heap w ρ s'.n s'.heap w' ∧ s'.log = olds cx.base [b] ++ s.log ∧ s'.env = s.env ∧ s'.n = s.n ∧ s'.defs = s.defs := by
  obtain ⟨env, heap, n, log, defs⟩ := s
  obtain ⟨bl, hb, h⟩ := bindO_eq.1 (show (bindO (hget heap b) fun bl => bindO (putS vs off bl.cells) fun cs => some (⟨env, hset heap b ⟨cs, bl.sz⟩, n, logged cx b log, defs⟩ : St)) = some s' from h)
  obtain ⟨cs, hcs, h⟩ := bindO_eq.1 h
  cases h
  dsimp only at *
  obtain ⟨p1, p2, p3⟩ := putS_get _ _ hcs
  have hbk := hh.bk b bl hb
  have hrun := run_storeCells_cells (P := P) (ρ.blk b) off (vs.map (SV.conc ρ)) 0 w
    (fun j hj => by
      simp at hj
      have hlt : off + 0 + j < bl.cells.length := by omega
      rw [hbk.cell (List.getElem?_eq_getElem hlt)]; rfl)
    (fun j hj => by simp at hj; exact hbk.thaw (by omega))
    (fun u hu => by obtain ⟨x, hx, rfl⟩ := List.mem_map.1 hu; exact isCell_one (hc x hx) ρ)
  obtain ⟨g1, g2, g3⟩ := setCells_heap (ρ.blk b) (vs.map (SV.conc ρ)) off w
  have hsc : ∀ x ∈ cs, Sc n x := fun x hx => by
    obtain ⟨i, hi⟩ := List.mem_iff_getElem?.1 hx
    rw [p3 i] at hi
    split at hi
    · exact hv x (List.mem_of_getElem? hi)
    · exact hh.sc b bl hb x (List.mem_of_getElem? hi)
  obtain ⟨q1, q2⟩ := write_step hh hb p1 hsc g1 g2 (fun arr e fz hx hlo hin => by
    have hsize : bl.cells.length ≤ arr.size := by
      rcases Nat.lt_or_ge arr.size bl.cells.length with hlt | hge
      · have := hin arr.size _ (List.getElem?_eq_getElem hlt)
        simp at this
      · exact hge
    obtain ⟨arr', e1, e2, e3⟩ := g3 arr e fz hx (by simp; omega)
    refine ⟨arr', fz, e1, hlo, e2, fun i x hx => ?_⟩
    rw [e3 i]
    rw [p3 i] at hx
    simp only [List.length_map, List.getElem?_map]
    split at hx
    · rename_i hi; rw [if_pos hi, hx]; rfl
    · rename_i hi; rw [if_neg hi]; exact hin i x hx)
  refine ⟨_, by simpa using hrun, q1, q2, logged_eq _ _ _, rfl, rfl, rfl⟩
theorem store_ok (he : EnvOK ρ s a) (hh : HpOK ρ s.n s.heap w) {t : TypeId} {p x : Operand} (h : storeOp P cx s t p x = some (v, s')) :
    ∃ w', (Instr.storeAt t (a.eval p) (a.eval x)).run P w = .ok () w' ∧ v = .v undef ∧ Eff cx s v s' ρ w ρ w' := by
  obtain ⟨q, hq, h⟩ := bindO_eq.1 h
  obtain ⟨y, hy, h⟩ := bindO_eq.1 h
  obtain ⟨s2, hs, h⟩ := bindO_eq.1 h
  cases h
  obtain ⟨ep, -⟩ := opv_ok he hh hq
  obtain ⟨ex, sx⟩ := opv_ok he hh hy
  obtain ⟨b, off, hq0, hs⟩ := ptrOf_eq hs
  rw [hq0, conc_ptr] at ep
  obtain ⟨n, hn, hs⟩ := bindO_eq.1 hs
  obtain ⟨h1, hs⟩ := guardO_eq.1 hs
  obtain ⟨h2, hs⟩ := guardO_eq.1 hs
  obtain ⟨w', hr, h3, h4, h5, h6, h7, h8⟩ := storeC_ok (P := P) hh sx.cells (allCell_eq h2) hs
  have hl : y.cells.length = n := by rw [← len_eq]; exact Nat.eq_of_beq_eq_true h1
  have hsz : (y.conc ρ).cells.size = n := by rw [← Array.length_toList, cells_conc]; simpa using hl
  refine ⟨w', ?_, rfl, ⟨[b], h4, h5⟩, h3, h6, Sc.v _ _, h8⟩
  rw [ep, ex]
  simp [Instr.storeAt, Instr.sureAddr, storeVar, sizeOf_run hn, hsz, cells_conc, hr]
theorem newS_eq {cs : List SV} {sz : Nat} {K : Nat → SV} (h : newS cs sz s K = some (v, s')) : v = K s.n ∧ s' = ⟨s.env, ⟨s.n, ⟨cs, sz⟩⟩ :: s.heap, s.n + 1, s.log, s.defs⟩ := by
  cases h
  exact ⟨rfl, rfl⟩
theorem new_eff (hh : HpOK ρ s.n s.heap w) {cs : List SV} {sz cap : Nat} {K : Nat → SV} (h : newS cs sz s K = some (v, s')) (hK : Sc (s.n + 1) (K s.n)) (hs : ∀ x ∈ cs, Sc s.n x) {w' : World} (hold : Old w w') {arr : Array Value} {e : TypeId} {fz : Nat × Nat}
    (hnew : w'.heap[w.heap.size]? = some (.cells arr e fz)) (hcs : ∀ (i : Nat) (x : SV), cs[i]? = some x → arr[i]? = some (x.conc ρ)) (hfz : Lo fz arr.size) (hsz : sz ≠ 0 → arr.size = sz * cap) :
    Eff cx s v s' ρ w (ρ.put s.n w.heap.size cap) w' := by
  obtain ⟨rfl, rfl⟩ := newS_eq h
  obtain ⟨h1, h2⟩ := new_step hh hs hold hnew hcs hfz hsz
  exact ⟨⟨[], h2, rfl⟩, h1, rfl, hK, rfl⟩
theorem alloc_cells (w : World) (o : Obj) : Old w (w.alloc o) ∧ (w.alloc o).heap[w.heap.size]? = some o := by
  constructor
  · refine ⟨fun r hr => ?_, ⟨rfl, rfl, rfl⟩⟩
    show (w.heap.push o)[r]? = _
    simp [Array.getElem?_push, Nat.ne_of_lt hr]
  · show (w.heap.push o)[w.heap.size]? = _
    simp
theorem put_blk (ρ : Va) (n b c : Nat) : (ρ.put n b c).blk n = b ∧ (ρ.put n b c).cap n = c := ⟨if_pos rfl, if_pos rfl⟩
theorem getElem_of_map {cs : List SV} {i : Nat} {x : SV} (h : cs[i]? = some x) : (cs.map (SV.conc ρ)).toArray[i]? = some (x.conc ρ) := by simp [h]
theorem box_ok (he : EnvOK ρ s a) (hh : HpOK ρ s.n s.heap w) {t : TypeId} {x : Operand} (h : (bindO (opv s.env x) fun v => newS v.cells 0 s fun n => .ptr n 0) = some (v, s')) :
    ∃ ρ' w', (Instr.box t (a.eval x)).run P w = .ok (v.conc ρ') w' ∧ Eff cx s v s' ρ w ρ' w' := by
  obtain ⟨y, hy, h⟩ := bindO_eq.1 h
  obtain ⟨e, hs⟩ := opv_ok he hh hy
  obtain ⟨g1, g2⟩ := alloc_cells w (.cells (y.conc ρ).cells t)
  refine ⟨_, _, ?_, new_eff (cap := 0) hh h (Sc.ptr (Nat.lt_succ_self _)) hs.cells g1 g2 (fun i x hx => ?_) (.inl rfl) (fun h => absurd rfl h)⟩
  · rw [(newS_eq h).1, conc_ptr, (put_blk _ _ _ _).1, e]
    simp [Instr.box, newVar, newRow]
  · have := getElem_of_map (ρ := ρ) hx
    rw [← cells_conc] at this
    simpa using this
theorem allocate_ok (hh : HpOK ρ s.n s.heap w) {t : TypeId} (h : (bindO (zeroOf P t) fun cs => newS cs 0 s fun n => .ptr n 0) = some (v, s')) :
    ∃ ρ' w', (Instr.alloc t true (.tuple #[])).run P w = .ok (v.conc ρ') w' ∧ Eff cx s v s' ρ w ρ' w' := by
  obtain ⟨z, hz, h⟩ := bindO_eq.1 h
  obtain ⟨i, zv, hi, hzv, hzc, hzs⟩ := zero_conc (ρ := ρ) hz
  obtain ⟨g1, g2⟩ := alloc_cells w (.cells zv.cells t)
  refine ⟨_, _, ?_, new_eff (cap := 0) hh h (Sc.ptr (Nat.lt_succ_self _)) (hzs s.n) g1 g2 (fun i x hx => ?_) (.inl rfl) (fun h => absurd rfl h)⟩
  · rw [(newS_eq h).1, conc_ptr, (put_blk _ _ _ _).1]
    simp [Instr.alloc, zeroValue, typeInfo, hi, hzv, newVar, newRow]
  · rw [← hzc]; exact getElem_of_map hx

/-! ### Rows -/
theorem replS_get {z : List SV} : ∀ (c i : Nat), i < c * z.length → (replS c z)[i]? = z[i % z.length]?
  | 0, i, h => by simp at h
  | c + 1, i, h => by
    show (z ++ replS c z)[i]? = _
    rw [List.getElem?_append]
    split
    · rename_i hi; rw [Nat.mod_eq_of_lt hi]
    · rename_i hi
      rw [replS_get c (i - z.length) (by rw [Nat.succ_mul] at h; omega)]
      congr 1
      exact (Nat.mod_eq_sub_mod (by omega)).symm
theorem replS_len (z : List SV) : ∀ c, (replS c z).length = c * z.length
  | 0 => by show 0 = _; simp
  | c + 1 => by
    show (z ++ replS c z).length = _
    rw [List.length_append, replS_len z c, Nat.add_mul]; omega
theorem replS_sc {n : Nat} {z : List SV} (h : ∀ x ∈ z, Sc n x) : ∀ c, ∀ x ∈ replS c z, Sc n x
  | 0 => fun x hx => (by cases hx)
  | c + 1 => fun x hx => by
    rcases List.mem_append.1 (show x ∈ z ++ replS c z from hx) with hx | hx
    · exact h x hx
    · exact replS_sc h c x hx
theorem zeroRow_eq {e : TypeId} {zn : List SV × Nat} (h : zeroRow P e = some zn) (ρ : Va) : ∃ i zv, P.info? e = some i ∧ i.zero = some zv ∧ (zn.1.map (SV.conc ρ)).toArray = zv.cells ∧ (∀ n, ∀ x ∈ zn.1, Sc n x) ∧ i.size = zn.2 ∧ zn.1.length = zn.2 ∧ zv.cells.size = zn.2 ∧ sizeT P e = some zn.2 := by
  obtain ⟨z, hz, h⟩ := bindO_eq.1 h
  obtain ⟨n, hn, h⟩ := bindO_eq.1 h
  obtain ⟨h1, h⟩ := guardO_eq.1 h
  cases h
  obtain ⟨i, zv, hi, hzv, hzc, hzs⟩ := zero_conc (ρ := ρ) hz
  have hl : z.length = n := by rw [← len_eq]; exact Nat.eq_of_beq_eq_true h1
  refine ⟨i, zv, hi, hzv, hzc, hzs, ?_, hl, by rw [← hzc]; simpa using hl, hn⟩
  obtain ⟨j, hj, hn⟩ := bindO_eq.1 hn
  rw [hi] at hj
  cases hj
  cases hn
  rfl
theorem made_conc {zn : List SV × Nat} {zv : Value} (hz : (zn.1.map (SV.conc ρ)).toArray = zv.cells) (hl : zn.1.length = zn.2) (c : Nat) :
    ((replS c zn.1).map (SV.conc ρ)).toArray = (Array.range (c * zn.2)).map (fun i => zv.cells[i % zv.cells.size]!) := by
  refine Array.ext_getElem? fun i => ?_
  have hs : zv.cells.size = zn.2 := by rw [← hz]; simpa using hl
  by_cases hi : i < c * zn.2
  · have hpos : 0 < zn.2 := by
      rcases Nat.eq_zero_or_pos zn.2 with h0 | h0
      · rw [h0] at hi; simp at hi
      · exact h0
    have hm : i % zn.2 < zn.2 := Nat.mod_lt _ hpos
    have e1 : (replS c zn.1)[i]? = zn.1[i % zn.2]? := by rw [replS_get c i (by rw [hl]; exact hi), hl]
    have hm' : i % zn.2 < zv.cells.size := by omega
    have e2 : zv.cells[i % zn.2]? = some zv.cells[i % zn.2]! := by rw [getElem!_pos zv.cells _ hm']; exact Array.getElem?_eq_getElem hm'
    simp only [List.getElem?_toArray, List.getElem?_map, e1, hs]
    rw [show (zn.1[i % zn.2]?.map (SV.conc ρ)) = zv.cells[i % zn.2]? by rw [← hz]; simp, e2]
    simp [hi]
  · have e1 : (replS c zn.1)[i]? = none := by
      have := replS_len zn.1 c
      rw [hl] at this
      simp; omega
    simp [e1, hi]
theorem buildRow_ok (he : EnvOK ρ s a) (hh : HpOK ρ s.n s.heap w) {t : TypeId} {n : Nat} {ps : Array (Nat × Operand)} (h : buildRow P s t n ps = some (v, s')) :
    ∃ ρ' w', (Instr.buildSlice t n (ps.map fun (i, x) => (i, a.eval x))).run P w = .ok (v.conc ρ') w' ∧ Eff cx s v s' ρ w ρ' w' := by
  obtain ⟨e, hel, h⟩ := bindO_eq.1 h
  obtain ⟨vs, hvs, h⟩ := bindO_eq.1 h
  obtain ⟨zn, hzn, h⟩ := bindO_eq.1 h
  obtain ⟨h1, h⟩ := guardO_eq.1 h
  obtain ⟨cs, hcs, h⟩ := bindO_eq.1 h
  obtain ⟨i, zv, hi, hzv, hzc, hzs, hsz, hl, hzl, hst⟩ := zeroRow_eq hzn ρ
  obtain ⟨epl, hs⟩ := opps_ok he hh hvs
  have hu := elemOfT_eq hel
  have hroom : n * zn.2 ≤ 16777216 := Nat.le_of_ble_eq_true h1
  have hf := fill_conc (ρ := ρ) hcs
  rw [made_conc hzc hl] at hf
  obtain ⟨g1, g2⟩ := alloc_cells w (.cells (cs.map (SV.conc ρ)).toArray e)
  refine ⟨_, _, ?_, new_eff (cap := 0) hh h (Sc.sl (Nat.lt_succ_self _)) (fill_sc hcs hs (replS_sc (hzs s.n) n)) g1 g2 (fun i x hx => getElem_of_map hx) (.inl rfl) (fun h => absurd rfl h)⟩
  rw [(newS_eq h).1, conc_ex, (put_blk _ _ _ _).1]
  have hno : ¬ (n * zn.2 > 2 ^ 24) := by omega
  simp only [Instr.buildSlice, Sem.run_bind, run_underlying hu, Result.andThen_ok, sizeOf_run hst, hno, if_false]
  rw [parts_list, epl]
  by_cases h0 : n * zn.2 = 0
  · have e0 : ∀ f : Nat → Value, (#[] : Array Nat).map f = #[] := fun f => by simp
    have hf0 : Instr.fill (fun i => some (i * zn.2, zn.2)) ((Array.range (n * zn.2)).map (fun x => (#[] : Array Value)[x % (#[] : Array Value).size]!)) (vs.map fun p => (p.1, p.2.conc ρ)) = some (cs.map (SV.conc ρ)).toArray := by
      rw [h0, Array.range_zero', e0] at hf ⊢
      exact hf
    rw [if_pos h0]
    simp only [pure_bind, hf0]
    rfl
  · have hf1 : Instr.fill (fun i => some (i * zn.2, zn.2)) ((Array.range (n * zn.2)).map (fun x => zv.cells[x % zv.cells.size]!)) (vs.map fun p => (p.1, p.2.conc ρ)) = some (cs.map (SV.conc ρ)).toArray := hf
    have hzr : (zeroValue e).run P w = .ok zv w := by simp [zeroValue, typeInfo, hi, hzv]
    rw [if_neg h0]
    simp only [Sem.run_bind, hzr, Result.andThen_ok, pure_bind, hf1]
    rfl
theorem roomyT_eq {n : Nat} {e : TypeId} {i : TypeInfo} (hi : P.info? e = some i) (h : roomyT P n e = true) : n ≤ 16777216 ∧ i.bytes ≤ 65536 := by
  unfold roomyT at h
  rw [hi] at h
  replace h : ifB (roomy n) (Nat.ble i.bytes 65536) false = true := h
  cases hr : roomy n with
  | false => rw [hr] at h; cases h
  | true => rw [hr, ifB_true] at h; exact ⟨Nat.le_of_ble_eq_true hr, Nat.le_of_ble_eq_true h⟩
theorem makeRow_ok (he : EnvOK ρ s a) (hh : HpOK ρ s.n s.heap w) {t : TypeId} {l c : Operand} (h : makeRow P s t l c = some (v, s')) :
    ∃ ρ' w', (Instr.makeSlice t (a.eval l) (a.eval c)).run P w = .ok (v.conc ρ') w' ∧ Eff cx s v s' ρ w ρ' w' := by
  obtain ⟨e, hel, h⟩ := bindO_eq.1 h
  obtain ⟨l', hl', h⟩ := bindO_eq.1 h
  obtain ⟨c', hc', h⟩ := bindO_eq.1 h
  obtain ⟨zn, hzn, h⟩ := bindO_eq.1 h
  obtain ⟨h1, h⟩ := guardO_eq.1 h
  obtain ⟨h2, h⟩ := guardO_eq.1 h
  obtain ⟨lv, hlv, hl'⟩ := bindO_eq.1 hl'
  obtain ⟨cv, hcv, hc'⟩ := bindO_eq.1 hc'
  obtain ⟨kl, ekl⟩ := natOf_eq hl'
  obtain ⟨kc, ekc⟩ := natOf_eq hc'
  have el := (opv_ok he hh hlv).1
  have ec := (opv_ok he hh hcv).1
  rw [ekl, conc_v] at el
  rw [ekc, conc_v] at ec
  obtain ⟨i, zv, hi, hzv, hzc, hzs, hsz, hln, hzl, hst⟩ := zeroRow_eq hzn ρ
  obtain ⟨r1, r2⟩ := roomyT_eq hi h2
  have hu := elemOfT_eq hel
  have hle : l' ≤ c' := Nat.le_of_ble_eq_true h1
  have hb : i.bytes * c' ≤ 65536 * 16777216 := Nat.mul_le_mul r2 r1
  have hrun := run_make (P := P) w t e i zv hu hi hzv kl kc (l' : Int) (c' : Int) (by omega) (by omega) (by omega) (by omega)
  have hcel : ∀ (j : Nat) (x : SV), (ifB (Nat.ble c' 65536) (replS c' zn.1) [])[j]? = some x → (replS c' zn.1)[j]? = some x := fun j x hx => by
    cases hbl : Nat.ble c' 65536 with
    | true => rw [hbl] at hx; exact hx
    | false => rw [hbl] at hx; cases hx
  have hsub : ∀ x ∈ (ifB (Nat.ble c' 65536) (replS c' zn.1) []), x ∈ replS c' zn.1 := fun x hx => by
    cases hbl : Nat.ble c' 65536 with
    | true => rw [hbl] at hx; exact hx
    | false => rw [hbl] at hx; cases hx
  obtain ⟨g1, g2⟩ := alloc_cells w (.cells (madeCells zv.cells ((c' : Int).toNat * i.size)) e)
  refine ⟨_, _, ?_, new_eff (cap := 0) hh h (Sc.sl (Nat.lt_succ_self _)) (fun x hx => replS_sc (hzs s.n) c' x (hsub x hx)) g1 g2 (fun j x hx => ?_) (.inl rfl) (fun h => absurd rfl h)⟩
  · rw [(newS_eq h).1, conc_ex, (put_blk _ _ _ _).1, el, ec, hrun]
    simp
  · have := getElem_of_map (ρ := ρ) (hcel j x hx)
    rw [made_conc hzc hln] at this
    rw [hsz]
    exact this
end Go.Ex
