/- The runner's oracle that looks into memory: polynomials and maps by their contracts. -/
import Derived.Test.YtneakieigiafpaaGreatDoorExP
import Derived.Test.YtneakieigiafpaaGreatDoorFloX
import Derived.Test.YtneakieigiafpaaGreatDoorRatX
namespace Go.Proofs.YtneakieigiafpaaGreatDoor
open Go.Ex Go.RowKit
set_option maxRecDepth 100000

def coOf (x : SV) : Option Co := match x with
  | .v (.complex .f64 a b) => some ⟨a, b⟩
  | _ => none
/-- The coefficients that a slice has. -/
noncomputable def rowCo (heap : List Hp) (x : SV) : Option (List Co) := match x with
  | .sl b off n _ => bindO (hget heap b) fun bl => bindO (takeS n bl.cells off) fun cs => mapO coOf cs
  | _ => none
noncomputable def allFin (p : List Co) : Bool := List.rec true (fun c _ ih => ifB c.fin ih false) p
noncomputable def lastOk (p : List Co) : Bool := List.rec false (fun c l ih => List.rec (ifB (czero c) false true) (fun _ _ _ => ih) l) p
noncomputable def lenN (p : List Co) : Nat := List.rec (nat_lit 0) (fun _ _ ih => Nat.succ ih) p
noncomputable def okPB (p : List Co) : Bool := ifB (Nat.ble (nat_lit 1) (lenN p)) (ifB (Nat.ble (lenN p) (nat_lit 17)) (ifB (allFin p) (lastOk p) false) false) false
theorem lenN_eq (p : List Co) : lenN p = p.length := by
  induction p with
  | nil => rfl
  | cons c l ih => exact congrArg Nat.succ ih
theorem allFin_eq {p : List Co} (h : allFin p = true) : ∀ c ∈ p, c.fin = true := by
  induction p with
  | nil => intro c hc; cases hc
  | cons a l ih =>
    obtain ⟨h1, h2⟩ := ifB_and (show ifB a.fin (allFin l) false = true from h)
    intro c hc
    rcases List.mem_cons.1 hc with rfl | hc
    · exact h1
    · exact ih h2 c hc
theorem lastOk_eq : ∀ {p : List Co}, lastOk p = true → ∀ c, p.getLast? = some c → czero c = false
  | [], h, _, _ => by cases h
  | [a], h, c, hc => by
    simp at hc
    subst hc
    replace h : ifB (czero a) false true = true := h
    cases hz : czero a with
    | true => rw [hz] at h; cases h
    | false => rfl
  | a :: b :: l, h, c, hc => lastOk_eq (p := b :: l) h c (by simpa using hc)
theorem okPB_eq {p : List Co} (h : okPB p = true) : OkP p := by
  obtain ⟨h1, h⟩ := ifB_and h
  obtain ⟨h2, h⟩ := ifB_and h
  obtain ⟨h3, h4⟩ := ifB_and h
  rw [lenN_eq] at h1 h2
  exact ⟨Nat.le_of_ble_eq_true h1, Nat.le_of_ble_eq_true h2, allFin_eq h3, lastOk_eq h4⟩
theorem rowCo_eq {heap : List Hp} {x : SV} {p : List Co} (h : rowCo heap x = some p) {ρ : Va} {n : Nat} {w : World} (hh : HpOK ρ n heap w) : ∃ A c, x.conc ρ = .slice A p.length c ∧ Row w A (p.map Co.v) := by
  unfold rowCo at h
  split at h
  · rename_i b off k cp
    obtain ⟨bl, hb, h⟩ := bindO_eq.1 h
    obtain ⟨cs, hcs, h⟩ := bindO_eq.1 h
    obtain ⟨g1, g2⟩ := takeS_get hcs
    obtain ⟨m1, m2⟩ := mapO_eq.1 h
    obtain ⟨cp', hcp⟩ := sl_conc (ρ := ρ) b off k cp
    refine ⟨_, cp', by rw [hcp, m1, g1], ?_⟩
    have key : ∀ i v, (p.map Co.v)[i]? = some v → w.cell? ⟨ρ.blk b, off + i, none⟩ = some v := fun i v hv => by
      rw [List.getElem?_map] at hv
      cases hp : p[i]? with
      | none => rw [hp] at hv; cases hv
      | some z =>
        rw [hp] at hv
        cases hv
        have hlt : i < cs.length := by rw [← m1]; exact (List.getElem?_eq_some_iff.1 hp).1
        obtain ⟨y, e1, e2⟩ := m2 i _ (List.getElem?_eq_getElem hlt)
        rw [hp] at e1
        cases e1
        have hcell := (hh.bk b bl hb).cell (g2 i _ (List.getElem?_eq_getElem hlt))
        have hz : cs[i] = .v z.v := by
          generalize cs[i] = d at e2
          unfold coOf at e2
          split at e2
          · cases e2; rfl
          · cases e2
        rw [hcell, hz, conc_v]
    exact .inr ⟨_, off, rfl, key⟩
  · cases h
/-- A slice of coefficients that may be, as a value of a frame. -/
noncomputable def polyV {α : Type} (heap : List Hp) (x : SV) (K : List Co → Option α) : Option α := bindO (rowCo heap x) fun p => guardO (okPB p) (K p)
theorem polyV_eq {α : Type} {heap : List Hp} {x : SV} {K : List Co → Option α} {r : α} (h : polyV heap x K = some r) : ∃ p, K p = some r ∧ OkP p ∧ ∀ {ρ : Va} {n : Nat} {w : World}, HpOK ρ n heap w → ∃ A c, x.conc ρ = .slice A p.length c ∧ Row w A (p.map Co.v) := by
  obtain ⟨p, hp, h⟩ := bindO_eq.1 h
  obtain ⟨h1, h⟩ := guardO_eq.1 h
  exact ⟨p, h, okPB_eq h1, fun hh => rowCo_eq hp hh⟩
noncomputable def mapV {α : Type} (heap : List Hp) (x : SV) (K : List Co → List Co → Option α) : Option α := match x with
  | .agg [a, b] => polyV heap a fun p => polyV heap b fun q => K p q
  | _ => none
theorem mapV_eq {α : Type} {heap : List Hp} {x : SV} {K : List Co → List Co → Option α} {r : α} (h : mapV heap x K = some r) : ∃ p q, K p q = some r ∧ OkP p ∧ OkP q ∧ ∀ {ρ : Va} {n : Nat} {w : World}, HpOK ρ n heap w → ∃ A c B d, x.conc ρ = .agg #[.slice A p.length c, .slice B q.length d] ∧ MapAt w A B p q := by
  unfold mapV at h
  split at h
  · obtain ⟨p, h, hp, h1⟩ := polyV_eq h
    obtain ⟨q, h, hq, h2⟩ := polyV_eq h
    refine ⟨p, q, h, hp, hq, fun hh => ?_⟩
    obtain ⟨A, c, e1, r1⟩ := h1 hh
    obtain ⟨B, d, e2, r2⟩ := h2 hh
    exact ⟨A, c, B, d, by rw [conc_agg]; simp [e1, e2], ⟨r1, r2⟩⟩
  · cases h
noncomputable def baT (b : Ba) : Option SV := bindO (baR b) fun r => some (.tup [r, .v (.int .i64 (.ofNat (nat_lit 0)))])
theorem baT_eq {x : Ba} {r : SV} (h : baT x = some r) : (∀ n, Sc n r) ∧ ∀ ρ, r.conc ρ = .tuple #[x.v, .int .i64 0] := by
  obtain ⟨y, hy, h⟩ := bindO_eq.1 h
  cases h
  obtain ⟨g1, g2⟩ := baR_eq hy
  refine ⟨fun n => Sc.tup fun z hz => ?_, fun ρ => by rw [conc_tup]; simp [conc_v, g2 ρ]⟩
  simp only [List.mem_cons, List.not_mem_nil, or_false] at hz
  rcases hz with rfl | rfl
  · exact g1 n
  · exact Sc.v _ _
def okV : SV := .v (.int .i64 (.ofNat (nat_lit 0)))
/-- What is told of a call where memory is known. -/
def Told (f : Nat) (l : List SV) (heap : List Hp) (v : SV) : Prop := (∀ n, Sc n v) ∧ ∀ ρ n w, HpOK ρ n heap w → (∀ x ∈ l, Sc n x) → SemVal Tryz.prog ((callFunc f (l.map (SV.conc ρ)).toArray).run Tryz.prog w) fun u w' => u = v.conc ρ ∧ Below w.heap.size w w'
theorem tellsH {f : Nat} {fn : Func} {c : Code} {l : List SV} {heap : List Hp} {v : SV} {u : Value} (hf : Tryz.prog.funcs[f]? = some fn) (hb : fn.body = some c) (hn : (fn.name == "runtime.NumGoroutine") = false)
    (hv : ∀ ρ, v.conc ρ = u) (hs : ∀ n, Sc n v) (h : ∀ ρ n w, HpOK ρ n heap w → ∃ av, (l.map (SV.conc ρ)).toArray = av ∧ Calls Tryz.prog f av w fun e w' => e = .returned u ∧ Kept w w') : Told f l heap v := by
  refine ⟨hs, fun ρ n w hh _ => ?_⟩
  obtain ⟨av, ha, hc⟩ := h ρ n w hh
  rw [ha, call_run hf hb hn]
  exact hc.mono fun e w' ⟨h1, h2⟩ => ⟨u, h1, (hv ρ).symm, h2⟩

noncomputable def pOn (l : List SV) (heap : List Hp) : Option SV := match l with
  | [x, y] => polyV heap x fun p => baV y fun b => guardO b.ok (bindO (polyOnO p b) baT)
  | _ => none
theorem pOn_ok {l : List SV} {heap : List Hp} {v : SV} (h : pOn l heap = some v) : Told 260 l heap v := by
  unfold pOn at h
  split at h
  · obtain ⟨p, h, hp, hx⟩ := polyV_eq h
    obtain ⟨b, h, hb⟩ := baV_eq h
    obtain ⟨h1, h⟩ := guardO_eq.1 h
    obtain ⟨r, h2, h⟩ := bindO_eq.1 h
    obtain ⟨g1, g2⟩ := baT_eq h
    refine tellsH Tryz.func260 rfl (by kernel_rfl) g2 g1 fun ρ n w hh => ?_
    obtain ⟨A, c, e1, r1⟩ := hx hh
    exact ⟨_, by simp [e1, hb ρ], ponc_any p b r hp h1 h2 A c w r1⟩
  · cases h
noncomputable def pSl (l : List SV) (heap : List Hp) : Option SV := match l with
  | [x, y] => polyV heap x fun p => baV y fun b => guardO b.ok (bindO (slopeOnO p b) baT)
  | _ => none
theorem pSl_ok {l : List SV} {heap : List Hp} {v : SV} (h : pSl l heap = some v) : Told 261 l heap v := by
  unfold pSl at h
  split at h
  · obtain ⟨p, h, hp, hx⟩ := polyV_eq h
    obtain ⟨b, h, hb⟩ := baV_eq h
    obtain ⟨h1, h⟩ := guardO_eq.1 h
    obtain ⟨r, h2, h⟩ := bindO_eq.1 h
    obtain ⟨g1, g2⟩ := baT_eq h
    refine tellsH Tryz.func261 rfl (by kernel_rfl) g2 g1 fun ρ n w hh => ?_
    obtain ⟨A, c, e1, r1⟩ := hx hh
    exact ⟨_, by simp [e1, hb ρ], slope_any p b r hp h1 h2 A c w r1⟩
  · cases h
noncomputable def pCk (l : List SV) (heap : List Hp) : Option SV := match l with
  | [x] => polyV heap x fun _ => some okV
  | _ => none
theorem pCk_ok {l : List SV} {heap : List Hp} {v : SV} (h : pCk l heap = some v) : Told 137 l heap v := by
  unfold pCk at h
  split at h
  · obtain ⟨p, h, hp, hx⟩ := polyV_eq h
    cases h
    refine tellsH Tryz.func137 rfl (by kernel_rfl) (fun ρ => conc_v _ _) (fun n => Sc.v _ _) fun ρ n w hh => ?_
    obtain ⟨A, c, e1, r1⟩ := hx hh
    exact ⟨_, by simp [e1], still (pcheck_any p hp A c w r1)⟩
  · cases h
noncomputable def mCk (l : List SV) (heap : List Hp) : Option SV := match l with
  | [x] => mapV heap x fun _ _ => some okV
  | _ => none
theorem mCk_ok {l : List SV} {heap : List Hp} {v : SV} (h : mCk l heap = some v) : Told 68 l heap v := by
  unfold mCk at h
  split at h
  · obtain ⟨p, q, h, hp, hq, hx⟩ := mapV_eq h
    cases h
    refine tellsH Tryz.func68 rfl (by kernel_rfl) (fun ρ => conc_v _ _) (fun n => Sc.v _ _) fun ρ n w hh => ?_
    obtain ⟨A, c, B, d, e1, r1⟩ := hx hh
    exact ⟨_, by simp [e1], rcheck_any p q hp hq A B c d w r1.p r1.q⟩
  · cases h
noncomputable def fCk (l : List SV) (heap : List Hp) : Option SV := match l with
  | [x, y] => mapV heap x fun _ _ => baV y fun b => guardO b.ok (some okV)
  | _ => none
theorem fCk_ok {l : List SV} {heap : List Hp} {v : SV} (h : fCk l heap = some v) : Told 219 l heap v := by
  unfold fCk at h
  split at h
  · obtain ⟨p, q, h, hp, hq, hx⟩ := mapV_eq h
    obtain ⟨b, h, hb⟩ := baV_eq h
    obtain ⟨h1, h⟩ := guardO_eq.1 h
    cases h
    refine tellsH Tryz.func219 rfl (by kernel_rfl) (fun ρ => conc_v _ _) (fun n => Sc.v _ _) fun ρ n w hh => ?_
    obtain ⟨A, c, B, d, e1, r1⟩ := hx hh
    exact ⟨_, by simp [e1, hb ρ], fcheck_any p q b hp hq h1 A B c d w r1⟩
  · cases h
inductive WayH where
  | none
  | way (f : List SV → List Hp → Option SV)
noncomputable def WayH.on (w : WayH) (l : List SV) (heap : List Hp) : Option SV := WayH.rec Option.none (fun f => f l heap) w
noncomputable def wayH (f : Nat) : WayH := ifB (Nat.beq f 260) (.way pOn) (ifB (Nat.beq f 261) (.way pSl) (ifB (Nat.beq f 137) (.way pCk) (ifB (Nat.beq f 68) (.way mCk) (ifB (Nat.beq f 219) (.way fCk) .none))))
noncomputable def oraG (f : Nat) (l : List SV) (heap : List Hp) : Option SV := Option.rec ((wayH f).on l heap) (fun v => some v) (oraF f l heap)
theorem oraG_ok : OraOK Tryz.prog oraG := by
  intro f l heap v h
  unfold oraG at h
  cases h0 : oraF f l heap with
  | some u =>
    rw [h0] at h
    cases h
    exact oraF_ok f l heap _ h0
  | none =>
    rw [h0] at h
    replace h : (wayH f).on l heap = some v := h
    unfold wayH at h
    rcases beq_dec f 260 with ⟨e, he⟩ | ⟨e, -⟩
    · rw [e, ifB_true] at h
      subst he
      exact pOn_ok h
    rw [e, ifB_false] at h
    rcases beq_dec f 261 with ⟨e, he⟩ | ⟨e, -⟩
    · rw [e, ifB_true] at h
      subst he
      exact pSl_ok h
    rw [e, ifB_false] at h
    rcases beq_dec f 137 with ⟨e, he⟩ | ⟨e, -⟩
    · rw [e, ifB_true] at h
      subst he
      exact pCk_ok h
    rw [e, ifB_false] at h
    rcases beq_dec f 68 with ⟨e, he⟩ | ⟨e, -⟩
    · rw [e, ifB_true] at h
      subst he
      exact mCk_ok h
    rw [e, ifB_false] at h
    rcases beq_dec f 219 with ⟨e, he⟩ | ⟨e, -⟩
    · rw [e, ifB_true] at h
      subst he
      exact fCk_ok h
    rw [e, ifB_false] at h
    cases h
end Go.Proofs.YtneakieigiafpaaGreatDoor
