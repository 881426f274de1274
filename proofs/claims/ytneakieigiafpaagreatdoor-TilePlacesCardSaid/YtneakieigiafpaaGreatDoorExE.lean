/- The runner's operators: they do what the model's do. -/
import Derived.Test.YtneakieigiafpaaGreatDoorExD
import Derived.Laws.Cover3
import Derived.Laws.Pointers
namespace Go.Ex
open Go
variable {P : Program} {cx : Cx} {o : Oper} {s s' : St} {v : SV} {ρ : Va} {a : Act} {w : World}

theorem wrap_i64 {n : Int} (h0 : -9223372036854775808 ≤ n) (h1 : n ≤ 9223372036854775807) : IntKind.i64.wrap n = n := by
  have e1 : (2 : Int) ^ IntKind.i64.bits = 18446744073709551616 := by decide
  have e2 : (2 : Int) ^ (IntKind.i64.bits - 1) = 9223372036854775808 := by decide
  simp only [IntKind.wrap, e1, e2, IntKind.signed, Bool.true_and, decide_eq_true_eq]
  split <;> omega
theorem wrap_u64 (n : Int) : IntKind.u64.wrap n = n % 18446744073709551616 := by simp [IntKind.wrap, IntKind.bits, IntKind.signed]
theorem wrap_u32 (n : Int) : IntKind.u32.wrap n = n % 4294967296 := by simp [IntKind.wrap, IntKind.bits, IntKind.signed]
theorem wrap_u8 (n : Int) : IntKind.u8.wrap n = n % 256 := by simp [IntKind.wrap, IntKind.bits, IntKind.signed]
theorem wrapF_ok {k : IntKind} {n : Nat} {r : Value} (h : wrapF k n = some r) : r = .int k (k.wrap (n : Int)) := by
  unfold wrapF at h
  split at h
  · obtain ⟨h1, h⟩ := guardO_eq.1 h
    rw [force_eq] at h
    cases h
    have hle : n ≤ 9223372036854775807 := Nat.le_of_ble_eq_true h1
    rw [wrap_i64 (by omega) (by omega)]
    rfl
  · unfold wrapU at h; rw [force_eq] at h; cases h; rw [wrap_u64]; rfl
  · unfold wrapU at h; rw [force_eq] at h; cases h; rw [wrap_u32]; rfl
  · unfold wrapU at h; rw [force_eq] at h; cases h; rw [wrap_u8]; rfl
  · cases h
theorem sub_mod {a b m : Nat} (hm : 0 < m) (h : b ≤ m) : ((a : Int) - b) % (m : Int) = ((a + m - b) % m : Nat) := by
  rw [show (((a + m - b) % m : Nat) : Int) = ((a + m - b : Nat) : Int) % (m : Int) from rfl, Int.ofNat_sub (by omega)]
  have : ((a + m : Nat) : Int) - b = ((a : Int) - b) + m := by omega
  rw [this, Int.add_emod_right]
theorem subU_ok {k : IntKind} {m a b : Nat} {r : Value} (hm : 0 < m) (hk : ∀ n : Int, k.wrap n = n % (m : Int)) (h : subU k m a b = some r) : r = .int k (k.wrap ((a : Int) - b)) := by
  unfold subU at h
  rw [hk]
  rcases ble_dec b a with ⟨e, hle⟩ | ⟨e, hlt⟩
  · rw [e, ifB_true] at h
    unfold wrapU at h
    rw [force_eq] at h
    cases h
    have : (a : Int) - b = ((a - b : Nat) : Int) := by omega
    rw [this]
    rfl
  · rw [e, ifB_false] at h
    obtain ⟨h1, h⟩ := guardO_eq.1 h
    unfold wrapU at h
    rw [force_eq] at h
    cases h
    rw [sub_mod hm (Nat.le_of_ble_eq_true h1)]
    rfl
theorem subF_ok {k : IntKind} {a b : Nat} {r : Value} (h : subF k a b = some r) : r = .int k (k.wrap ((a : Int) - b)) := by
  unfold subF at h
  split at h
  · obtain ⟨h1, h⟩ := guardO_eq.1 h
    obtain ⟨h2, h⟩ := guardO_eq.1 h
    have ha : a ≤ 9223372036854775807 := Nat.le_of_ble_eq_true h1
    have hb : b ≤ 9223372036854775807 := Nat.le_of_ble_eq_true h2
    rw [wrap_i64 (by omega) (by omega)]
    rcases ble_dec b a with ⟨e, hle⟩ | ⟨e, hlt⟩
    · rw [e, ifB_true, force_eq] at h
      cases h
      congr 1
      show ((a - b : Nat) : Int) = _
      omega
    · rw [e, ifB_false, force_eq] at h
      cases h
      congr 1
      show -((Nat.pred (b - a) : Nat) + 1 : Int) = _
      rw [Nat.pred_eq_sub_one]
      omega
  · exact subU_ok (by decide) wrap_u64 h
  · exact subU_ok (by decide) wrap_u32 h
  · exact subU_ok (by decide) wrap_u8 h
  · cases h
theorem boolV_eq (b : Bool) : boolV b = some (.bool b) := by cases b <;> rfl
theorem ble_decide (a b : Nat) : Nat.ble a b = decide ((a : Int) ≤ b) := by
  rcases ble_dec a b with ⟨e, h⟩ | ⟨e, h⟩
  · rw [e]; exact (decide_eq_true (by omega)).symm
  · rw [e]; exact (decide_eq_false (by omega)).symm
theorem blt_decide (a b : Nat) : Nat.ble (Nat.succ a) b = decide ((a : Int) < b) := by
  rcases ble_dec (a + 1) b with ⟨e, h⟩ | ⟨e, h⟩
  · exact e.trans (decide_eq_true (by omega)).symm
  · exact e.trans (decide_eq_false (by omega)).symm
theorem beq_decide (a b : Nat) : Nat.beq a b = ((a : Int) == b) := by
  rcases beq_dec a b with ⟨e, h⟩ | ⟨e, h⟩
  · rw [e]; subst h; simp
  · rw [e]
    symm
    rw [beq_eq_false_iff_ne]
    omega
theorem natOp_ok {op : BinOp} {k : IntKind} {a b : Nat} {r : Value} (h : natOp op k a b = some r) (t : TypeId) : binOp op t (.int k (a : Int)) (.int k (b : Int)) = pure r := by
  unfold natOp at h
  split at h
  · rw [binOp_add, wrapF_ok h]; rfl
  · rw [binOp_sub, subF_ok h]; rfl
  · rw [binOp_mul, wrapF_ok h]; rfl
  · rw [boolV_eq] at h; cases h; rw [binOp_eql, beq_decide]
  · rw [boolV_eq] at h; cases h; rw [binOp_neq, beq_decide]; rfl
  · rw [boolV_eq] at h; cases h; rw [binOp_lss, blt_decide]
  · rw [boolV_eq] at h; cases h; rw [binOp_leq, ble_decide]
  · rw [boolV_eq] at h; cases h; rw [binOp_gtr, blt_decide]
  · rw [boolV_eq] at h; cases h; rw [binOp_geq, ble_decide]
  · cases h
theorem intOp_ok {op : BinOp} {k : IntKind} {x y : Int} {r : Value} (h : intOp op k x y = some r) (t : TypeId) : binOp op t (.int k x) (.int k y) = pure r := by
  unfold intOp at h
  split at h
  · exact natOp_ok h t
  · cases h
theorem fastBin_ok {op : BinOp} {x y r : Value} (h : fastBin op x y = some r) (t : TypeId) (p q : Operand) (w : World) : ((do eqGuard op t p q x y; binOp op t x y) : Sem Value).run P w = .ok r w := by
  unfold fastBin at h
  split at h
  · rename_i k m l n
    obtain ⟨h1, h2⟩ := guardO_eq.1 h
    clear h
    have hk : k = l := of_decide_eq_true h1
    subst hk
    rw [eqGuard_at_int, intOp_ok h2 t]
    rfl
  · cases h
theorem floatBin_ok (op : BinOp) (t : TypeId) (x y : Nat) : binOp op t (.float .f64 x) (.float .f64 y) = floatBin op x y := by cases op <;> simp [binOp, floatBin]
theorem valBin_ok {op : BinOp} {t : TypeId} {p q : Operand} {x y : Value} {r : SV} (h : valBin P op t p q x y = some r) (w : World) : ∃ u, r = .v u ∧ ((do eqGuard op t p q x y; binOp op t x y) : Sem Value).run P w = .ok u w := by
  unfold valBin at h
  split at h
  · obtain ⟨u, rfl, hu⟩ := pureOp_eq h
    refine ⟨u, rfl, ?_⟩
    rw [eqGuard_at_float, floatBin_ok]
    simpa using hu w
  · cases hf : fastBin op x y with
    | some r' =>
      rw [hf] at h
      cases h
      exact ⟨r', rfl, fastBin_ok hf t p q w⟩
    | none =>
      rw [hf] at h
      obtain ⟨u, hu0, hu⟩ := pureOp_eq (show slowBin P op t p q x y = some r from h)
      exact ⟨u, hu0, hu w⟩
theorem refEq_ok {op : BinOp} {r : SV} (h : refEq op = some r) : (op = .eql ∧ r = .v (.bool false)) ∨ (op = .neq ∧ r = .v (.bool true)) := by
  unfold refEq at h
  split at h
  · cases h; exact .inl ⟨rfl, rfl⟩
  · cases h; exact .inr ⟨rfl, rfl⟩
  · cases h
theorem equal_run {t : TypeId} {x y : Value} {b : Bool} (h : ∀ d, (Op.equalIn (d + 1) t x y).run P w = .ok b w) : (Op.equal t x y).run P w = .ok b w := h 9999
theorem eq_ops {op : BinOp} {t : TypeId} {x y : Value} {r : SV} (hr : refEq op = some r) (h : (Op.equal t x y).run P w = .ok false w) (he : binOp .eql t x y = (do pure (.bool (← Op.equal t x y)))) (hn : binOp .neq t x y = (do pure (.bool (!(← Op.equal t x y))))) :
    (binOp op t x y).run P w = .ok (r.conc ρ) w := by
  rcases refEq_ok hr with ⟨rfl, rfl⟩ | ⟨rfl, rfl⟩
  · rw [he, conc_v]; simp [h]
  · rw [hn, conc_v]; simp [h]
theorem refEq_sc {op : BinOp} {r : SV} {n : Nat} (h : refEq op = some r) : Sc n r := by rcases refEq_ok h with ⟨-, rfl⟩ | ⟨-, rfl⟩ <;> exact Sc.v _ _
theorem refNil_ok {n : Nat} {op : BinOp} {t : TypeId} {p q : Operand} {x : SV} {y : Value} {r : SV} (h : refNil P op t x y = some r) : ((do eqGuard op t p q (x.conc ρ) y; binOp op t (x.conc ρ) y) : Sem Value).run P w = .ok (r.conc ρ) w ∧ Sc n r := by
  unfold refNil at h
  split at h
  · rename_i b off e hu
    refine ⟨?_, refEq_sc h⟩
    rw [conc_ptr, eqGuard_at_pointer]
    have : (Op.equal t (.pointer (some ⟨ρ.blk b, off, none⟩)) (.pointer none)).run P w = .ok false w := equal_run fun d => by simp [Op.equalIn, run_underlying hu]
    simpa using eq_ops (ρ := ρ) h this rfl rfl
  · rename_i b off k c l m e hu
    refine ⟨?_, refEq_sc h⟩
    have hcc : ∃ cp, (SV.sl b off k c).conc ρ = .slice (some ⟨ρ.blk b, off, none⟩) k cp := by cases c <;> exact ⟨_, by first | exact conc_ex _ _ _ _ _ | exact conc_un _ _ _ _ _⟩
    obtain ⟨cp, hcp⟩ := hcc
    rw [hcp, eqGuard_at_slice]
    have : (Op.equal t (.slice (some ⟨ρ.blk b, off, none⟩) k cp) (.slice none l m)).run P w = .ok false w := equal_run fun d => by simp [Op.equalIn, run_underlying hu]
    simpa using eq_ops (ρ := ρ) h this rfl rfl
  · rename_i f c d e1 e2 e3 hu
    refine ⟨?_, refEq_sc h⟩
    rw [conc_fn, eqGuard_at_func]
    have : (Op.equal t (.func (.func f) (c.map (SV.conc ρ)).toArray (d.map (SV.conc ρ)).toArray) .nilFunc).run P w = .ok false w := equal_run fun d => by simp [Op.equalIn, run_underlying hu]
    simpa using eq_ops (ρ := ρ) h this rfl rfl
  · cases h
theorem bin_ok (he : EnvOK ρ s a) (hh : HpOK ρ s.n s.heap w) {op : BinOp} {t : TypeId} {x y : Operand} (h : (bindO (opv s.env x) fun a => bindO (opv s.env y) fun b => binS P op t x y a b) = some v) :
    ((do eqGuard op t x y (a.eval x) (a.eval y); binOp op t (a.eval x) (a.eval y)) : Sem Value).run P w = .ok (v.conc ρ) w ∧ Sc s.n v := by
  obtain ⟨p, hp, h⟩ := bindO_eq.1 h
  obtain ⟨q, hq, h⟩ := bindO_eq.1 h
  rw [(opv_ok he hh hp).1, (opv_ok he hh hq).1]
  unfold binS at h
  cases hf : p.flat with
  | none =>
    rw [hf] at h
    obtain ⟨y', hy, h⟩ := bindO_eq.1 (show (bindO q.flat fun w => refNil P op t p w) = some v from h)
    rw [flat_conc hy ρ]
    exact refNil_ok h
  | some u =>
    rw [hf] at h
    obtain ⟨y', hy, h⟩ := bindO_eq.1 (show (bindO q.flat fun w => valBin P op t x y u w) = some v from h)
    rw [flat_conc hy ρ, flat_conc hf ρ]
    obtain ⟨r, rfl, hr⟩ := valBin_ok h w
    rw [conc_v]
    exact ⟨hr, Sc.v _ _⟩

/-! ### Slices of slices and strings -/
theorem optNat_ok {x : Option SV} {d n : Nat} (h : optNat x d = some n) : (x = none ∧ n = d) ∨ ∃ k, x = some (.v (.int k (n : Int))) := by
  cases x with
  | none => cases h; exact .inl ⟨rfl, rfl⟩
  | some x =>
    obtain ⟨k, hk⟩ := natOf_eq (show natOf x = some n from h)
    exact .inr ⟨k, by rw [hk]⟩
theorem bounds_run {len cap : Nat} {lo hi : Option SV} {l h : Nat} (hl : optNat lo 0 = some l) (hh : optNat hi len = some h) (h1 : l ≤ h) (h2 : h ≤ cap) :
    (Instr.sliceBounds true len cap (lo.map (SV.conc ρ)) (hi.map (SV.conc ρ)) none).run P w = .ok (l, h, cap) w := by
  have bnd : ∀ (k : IntKind) (i y : Nat) (c : BoundsCode), i ≤ y → (Instr.sliceBound (.int k (i : Int)) y c).run P w = .ok i w := fun k i y c hi => by
    have : (i : Int) ≤ (y : Int) := by omega
    simp [Instr.sliceBound, asIntOf, hi]
  rcases optNat_ok hl with ⟨rfl, rfl⟩ | ⟨k, rfl⟩ <;> rcases optNat_ok hh with ⟨rfl, rfl⟩ | ⟨m, rfl⟩
  · simp [Instr.sliceBounds]
  · simp [Instr.sliceBounds, conc_v, bnd _ _ _ _ h2]
  · simp [Instr.sliceBounds, conc_v, bnd _ _ _ _ h1]
  · simp [Instr.sliceBounds, conc_v, bnd _ _ _ _ h2, bnd _ _ _ _ h1]
theorem slice_any {t e : TypeId} (hu : P.underlying t = some (.slice e)) {z : Nat} (hz : sizeT P e = some z) {A : Option Addr} {len cap : Nat} {lo hi : Option SV} {l h : Nat} (hl : optNat lo 0 = some l) (hh : optNat hi len = some h) (h1 : l ≤ h) (h2 : h ≤ cap) :
    (Instr.sliceAt t (.slice A len cap) (lo.map (SV.conc ρ)) (hi.map (SV.conc ρ)) none).run P w = .ok (.slice (if cap = l then A else A.map (·.add (l * z))) (h - l) (cap - l)) w := by
  simp only [Instr.sliceAt, Sem.run_bind, run_underlying hu, Result.andThen_ok, Instr.slice, bounds_run hl hh h1 h2, sizeOf_run hz, Sem.run_pure]
theorem un_room {l : List Hp} {n b off len k z : Nat} (hh : HpOK ρ n l w) (h : unRoom l b off len k z = true) : len ≤ ρ.cap b - k := by
  unfold unRoom at h
  cases hb : hget l b with
  | none => rw [hb] at h; cases h
  | some bl =>
    rw [hb] at h
    replace h : ifB (Nat.beq bl.sz z) (ifB (Nat.ble 1 z) (ifB (Nat.beq off (Nat.mul k z)) (Nat.ble (Nat.add off (Nat.mul len z)) (Go.Ex.len bl.cells)) false) false) false = true := h
    rcases beq_dec bl.sz z with ⟨e1, hz⟩ | ⟨e1, -⟩
    case inr => rw [e1] at h; cases h
    rw [e1, ifB_true] at h
    rcases ble_dec 1 z with ⟨e2, h1⟩ | ⟨e2, -⟩
    case inr => rw [e2] at h; cases h
    rw [e2, ifB_true] at h
    rcases beq_dec off (Nat.mul k z) with ⟨e3, h3⟩ | ⟨e3, -⟩
    case inr => rw [e3] at h; cases h
    rw [e3, ifB_true] at h
    have h4 := Nat.le_of_ble_eq_true h
    rw [len_eq] at h4
    obtain ⟨arr, e, fz, g1, g2, -, g4⟩ := hh.bk b bl hb
    have g5 := g4 (by omega)
    have hle : bl.cells.length ≤ arr.size := by
      rcases Nat.lt_or_ge arr.size bl.cells.length with hlt | hge
      · have hx := g2 arr.size _ (List.getElem?_eq_getElem hlt)
        simp at hx
      · exact hge
    have h5 : (k + len) * z ≤ ρ.cap b * z := by
      have e6 : k * z + len * z ≤ bl.cells.length := by rw [← show off = k * z from h3]; exact h4
      rw [Nat.add_mul]
      have e7 : ρ.cap b * z = arr.size := by rw [g5, hz, Nat.mul_comm]
      omega
    have := Nat.le_of_mul_le_mul_right h5 (by omega)
    omega
theorem cutRow_ok {H : List Hp} {m n b off len : Nat} {cap : Cp} {z l h : Nat} {r : SV} (hb : Sc n (.sl b off len cap)) {t e : TypeId} (hu : P.underlying t = some (.slice e)) (hz : sizeT P e = some z) {lo hi : Option SV} (hl : optNat lo 0 = some l) (hhi : optNat hi len = some h)
    (hr : cutRow H b off len cap z l h = some r) (hp : HpOK ρ m H w) : (Instr.sliceAt t ((SV.sl b off len cap).conc ρ) (lo.map (SV.conc ρ)) (hi.map (SV.conc ρ)) none).run P w = .ok (r.conc ρ) w := by
  cases cap with
  | ex c =>
    obtain ⟨h1, hr⟩ := guardO_eq.1 (show guardO (Nat.ble l h) (guardO (Nat.ble h c) (force (ifB (Nat.beq c l) off (Nat.add off (Nat.mul l z))) fun o => force (Nat.sub h l) fun m => force (Nat.sub c l) fun c => some (SV.sl b o m (.ex c)))) = some r from hr)
    obtain ⟨h2, hr⟩ := guardO_eq.1 hr
    simp only [force_eq] at hr
    cases hr
    rw [conc_ex, conc_ex, slice_any hu hz hl hhi (Nat.le_of_ble_eq_true h1) (Nat.le_of_ble_eq_true h2)]
    rcases beq_dec c l with ⟨e1, rfl⟩ | ⟨e1, hne⟩
    · rw [e1, ifB_true, if_pos rfl]; rfl
    · rw [e1, ifB_false, if_neg hne]
      simp only [Option.map_some, Addr.add_lit]
      rfl
  | un k =>
    obtain ⟨h0, hr⟩ := guardO_eq.1 (show guardO (unRoom H b off len k z) (guardO (Nat.ble l h) (guardO (Nat.ble h len) (guardO (ifB (Nat.beq l 0) true (Nat.ble (Nat.succ l) len)) (force (Nat.add off (Nat.mul l z)) fun o => force (Nat.sub h l) fun m => force (Nat.add k l) fun k => some (SV.sl b o m (.un k)))))) = some r from hr)
    obtain ⟨h1, hr⟩ := guardO_eq.1 hr
    obtain ⟨h2, hr⟩ := guardO_eq.1 hr
    obtain ⟨h3, hr⟩ := guardO_eq.1 hr
    simp only [force_eq] at hr
    cases hr
    have hc := un_room hp h0
    have g2 := Nat.le_of_ble_eq_true h2
    rw [conc_un, conc_un, slice_any hu hz hl hhi (Nat.le_of_ble_eq_true h1) (by omega)]
    have e2 : ρ.cap b - k - l = ρ.cap b - (k + l) := by omega
    rcases beq_dec l 0 with ⟨e1, rfl⟩ | ⟨e1, hne⟩
    · simp only [Option.map_some, Nat.zero_mul, Addr.add_lit, ite_self]
      have e3 : Nat.add off (Nat.mul 0 z) = off := by show off + 0 * z = off; simp
      rw [e3, e2]
      simp
    · rw [e1, ifB_false] at h3
      have g3 : l + 1 ≤ len := Nat.le_of_ble_eq_true h3
      rw [if_neg (by omega), e2]
      simp only [Option.map_some, Addr.add_lit]
      rfl
theorem cutText_ok {t : TypeId} {bs : ByteArray} {lo hi : Option SV} {r : SV} {n : Nat} (h : cutText P t bs lo hi = some r) : (Instr.sliceAt t (.string bs) (lo.map (SV.conc ρ)) (hi.map (SV.conc ρ)) none).run P w = .ok (r.conc ρ) w ∧ Sc n r := by
  unfold cutText at h
  split at h
  · obtain ⟨u, rfl, hu⟩ := pureOp_eq h
    exact ⟨(hu w).trans (by rw [conc_v]), Sc.v _ _⟩
  · obtain ⟨x, hx, h⟩ := bindO_eq.1 h
    obtain ⟨u, rfl, hu⟩ := pureOp_eq h
    refine ⟨?_, Sc.v _ _⟩
    rw [Option.map_some, flat_conc hx ρ, conc_v]
    exact hu w
  · obtain ⟨x, hx, h⟩ := bindO_eq.1 h
    obtain ⟨u, rfl, hu⟩ := pureOp_eq h
    refine ⟨?_, Sc.v _ _⟩
    rw [Option.map_some, flat_conc hx ρ, conc_v]
    exact hu w
  · obtain ⟨x, hx, h⟩ := bindO_eq.1 h
    obtain ⟨y, hy, h⟩ := bindO_eq.1 h
    obtain ⟨u, rfl, hu⟩ := pureOp_eq h
    refine ⟨?_, Sc.v _ _⟩
    rw [Option.map_some, Option.map_some, flat_conc hx ρ, flat_conc hy ρ, conc_v]
    exact hu w
theorem sl_sc {n b off k off' k' : Nat} {c c' : Cp} (h : Sc n (.sl b off k c)) (hb : b < n) : Sc n (.sl b off' k' c') := Sc.sl hb
theorem sliceS_ok {n : Nat} {H : List Hp} (hp : HpOK ρ n H w) {t : TypeId} {x : SV} {lo hi : Option SV} {r : SV} (hs : Sc n x) (h : sliceS P H t x lo hi = some r) :
    (Instr.sliceAt t (x.conc ρ) (lo.map (SV.conc ρ)) (hi.map (SV.conc ρ)) none).run P w = .ok (r.conc ρ) w ∧ Sc n r := by
  unfold sliceS at h
  split at h
  · rw [conc_v]; exact cutText_ok h
  · obtain ⟨e, he, h⟩ := bindO_eq.1 h
    obtain ⟨z, hz, h⟩ := bindO_eq.1 h
    obtain ⟨l, hl, h⟩ := bindO_eq.1 h
    obtain ⟨k, hk, h⟩ := bindO_eq.1 h
    obtain ⟨h1, h⟩ := guardO_eq.1 h
    obtain ⟨h2, h⟩ := guardO_eq.1 h
    cases h
    obtain rfl : l = 0 := Nat.eq_of_beq_eq_true h1
    obtain rfl : k = 0 := Nat.eq_of_beq_eq_true h2
    refine ⟨?_, Sc.v _ _⟩
    have hu := elemOfT_eq he
    rw [conc_v, slice_any hu hz hl hk (Nat.le_refl _) (Nat.le_refl _)]
    simp
  · rename_i b off k c
    obtain ⟨e, he, h⟩ := bindO_eq.1 h
    obtain ⟨z, hz, h⟩ := bindO_eq.1 h
    obtain ⟨l, hl, h⟩ := bindO_eq.1 h
    obtain ⟨m, hm, h⟩ := bindO_eq.1 h
    refine ⟨cutRow_ok hs (elemOfT_eq he) hz hl hm h hp, ?_⟩
    have hbn := hs.sl_lt
    unfold cutRow at h
    split at h
    · obtain ⟨-, h⟩ := guardO_eq.1 h
      obtain ⟨-, h⟩ := guardO_eq.1 h
      simp only [force_eq] at h
      cases h
      exact Sc.sl hbn
    · obtain ⟨-, h⟩ := guardO_eq.1 h
      obtain ⟨-, h⟩ := guardO_eq.1 h
      obtain ⟨-, h⟩ := guardO_eq.1 h
      obtain ⟨-, h⟩ := guardO_eq.1 h
      simp only [force_eq] at h
      cases h
      exact Sc.sl hbn
  · cases h
theorem slice_ok (he : EnvOK ρ s a) (hh : HpOK ρ s.n s.heap w) {t : TypeId} {x : Operand} {lo hi mx : Option Operand} (h : sliceOp P s.heap s.env t x lo hi mx = some v) :
    (Instr.sliceAt t (a.eval x) (lo.map a.eval) (hi.map a.eval) (mx.map a.eval)).run P w = .ok (v.conc ρ) w ∧ Sc s.n v := by
  unfold sliceOp at h
  split at h
  · obtain ⟨u, hu, h⟩ := bindO_eq.1 h
    obtain ⟨e, hs⟩ := opv_ok he hh hu
    have ho : ∀ {x : Option Operand} {K : Option SV → Option SV} {r : SV}, optS s.env x K = some r → ∃ y, K y = some r ∧ x.map a.eval = y.map (SV.conc ρ) := by
      intro x K r h
      cases x with
      | none => exact ⟨none, h, rfl⟩
      | some x =>
        obtain ⟨y, hy, h⟩ := bindO_eq.1 (show (bindO (opv s.env x) fun v => K (some v)) = some r from h)
        exact ⟨some y, h, congrArg some (opv_ok he hh hy).1⟩
    obtain ⟨l, h, el⟩ := ho h
    obtain ⟨m, h, em⟩ := ho h
    rw [e, el, em]
    exact sliceS_ok hh hs h
  · cases h

/-! ### len, and the builtins that look at values alone -/
theorem len_ok {n : Nat} {t ty : TypeId} {x r : SV} (h : lenS P t x = some r) : (Builtin.len_ #[t] ty #[x.conc ρ]).run P w = .ok (r.conc ρ) w ∧ Sc n r := by
  unfold lenS at h
  split at h
  · rename_i b off k c
    obtain ⟨e, he, h⟩ := bindO_eq.1 h
    cases h
    refine ⟨?_, Sc.v _ _⟩
    have hu := elemOfT_eq he
    rw [conc_v]
    cases c <;> simp [conc_ex, conc_un, Builtin.len_, run_underlying hu, goInt]
  · obtain ⟨u, rfl, hu⟩ := pureOp_eq h
    refine ⟨?_, Sc.v _ _⟩
    rw [conc_v, conc_v]
    exact hu w
  · cases h
theorem asVal_ok {x : Next} {r : SV} (h : asVal x = some r) : ∃ u, x = .value u ∧ r = .v u := by
  unfold asVal at h
  split at h
  · rw [bareV_eq] at h
    cases h
    exact ⟨_, rfl, rfl⟩
  · cases h
theorem bytes_row : ∀ (l : List UInt8), bytesS l = l.map fun b => SV.v (.int .u8 (b.toNat : Int))
  | [] => rfl
  | b :: l => by
    show force b.toNat (fun n => SV.v (.int .u8 (.ofNat n))) :: bytesS l = _
    rw [force_eq, bytes_row l]
    rfl
end Go.Ex
