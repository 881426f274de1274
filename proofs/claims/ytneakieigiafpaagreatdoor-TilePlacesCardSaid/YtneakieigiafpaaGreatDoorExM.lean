/- Regions whose order is open: the runner's pass, and what it says of the region. -/
import Derived.Test.YtneakieigiafpaaGreatDoorExL
namespace Go.Ex
open Go

theorem memN_eq {b : Nat} {l : List Nat} : memN b l = true ↔ b ∈ l := by
  induction l with
  | nil => exact ⟨fun h => (by cases h), fun h => (by cases h)⟩
  | cons a l ih =>
    show ifB (Nat.beq a b) true (memN b l) = true ↔ _
    rcases beq_dec a b with ⟨e, rfl⟩ | ⟨e, hne⟩
    · rw [e, ifB_true]; simp
    · rw [e, ifB_false, ih, List.mem_cons]
      exact ⟨.inr, fun h => h.resolve_left (Ne.symm hne)⟩
theorem unord_mem {bj : Nat} {rs : List Rc} {r : Rc} : r ∈ unord bj rs ↔ r ∈ rs ∧ hasBit bj r.idx = false := by
  induction rs with
  | nil => exact ⟨fun h => (by cases h), fun ⟨h, _⟩ => (by cases h)⟩
  | cons a l ih =>
    show r ∈ ifB (hasBit bj a.idx) (unord bj l) (a :: unord bj l) ↔ _
    cases hb : hasBit bj a.idx with
    | true =>
      rw [ifB_true, ih, List.mem_cons]
      exact ⟨fun ⟨h1, h2⟩ => ⟨.inr h1, h2⟩, fun ⟨h1, h2⟩ => ⟨h1.resolve_left (fun h => by subst h; rw [hb] at h2; cases h2), h2⟩⟩
    | false =>
      rw [ifB_false, List.mem_cons, ih, List.mem_cons]
      constructor
      · rintro (rfl | ⟨h1, h2⟩)
        · exact ⟨.inl rfl, hb⟩
        · exact ⟨.inr h1, h2⟩
      · rintro ⟨rfl | h1, h2⟩
        · exact .inl rfl
        · exact .inr ⟨h1, h2⟩
theorem touched_no {r : Rc} {b : Nat} (h : touched r b = false) : (b < r.lo ∨ r.hi ≤ b) ∧ b ∉ r.wr := by
  unfold touched at h
  cases hi : (ifB (Nat.ble r.lo b) (Nat.ble (Nat.succ b) r.hi) false) with
  | true => rw [hi] at h; cases h
  | false =>
    rw [hi, ifB_false] at h
    refine ⟨?_, fun hm => by rw [memN_eq.2 hm] at h; cases h⟩
    rcases ble_dec r.lo b with ⟨e, hle⟩ | ⟨e, hlt⟩
    · rw [e, ifB_true] at hi
      rcases ble_dec (b + 1) r.hi with ⟨e2, hle2⟩ | ⟨e2, hlt2⟩
      · rw [show Nat.ble (Nat.succ b) r.hi = true from e2] at hi; cases hi
      · exact .inr (by omega)
    · exact .inl hlt
theorem hidden_no {us : List Rc} {b : Nat} (h : hidden us b = false) : ∀ r ∈ us, touched r b = false := by
  induction us with
  | nil => intro r hr; cases hr
  | cons a l ih =>
    intro r hr
    replace h : ifB (touched a b) true (hidden l b) = false := h
    cases ha : touched a b with
    | true => rw [ha] at h; cases h
    | false =>
      rw [ha, ifB_false] at h
      rcases List.mem_cons.1 hr with rfl | hr
      · exact ha
      · exact ih h r hr
theorem viewAll_get (us : List Rc) : ∀ (l : List Hp) (b : Nat) (x : B), hget (viewAll us l) b = some x → hget l b = some x ∧ hidden us b = false
  | [], b, x, h => by cases h
  | ⟨i, y⟩ :: l, b, x, h => by
    replace h : hget (ifB (hidden us i) (viewAll us l) (⟨i, y⟩ :: viewAll us l)) b = some x := h
    rw [hget_cons]
    cases hi : hidden us i with
    | true =>
      rw [hi, ifB_true] at h
      obtain ⟨h1, h2⟩ := viewAll_get us l b x h
      rw [if_neg (fun e => by subst e; rw [hi] at h2; cases h2)]
      exact ⟨h1, h2⟩
    | false =>
      rw [hi, ifB_false, hget_cons] at h
      split at h
      · rename_i e; subst e; cases h; exact ⟨if_pos rfl, hi⟩
      · rename_i e; rw [if_neg e]; exact viewAll_get us l b x h
theorem viewAll_srt (us : List Rc) : ∀ {l : List Hp} {n : Nat}, Srt l n → Srt (viewAll us l) n
  | [], _, _ => trivial
  | ⟨i, y⟩ :: l, n, h => by
    show Srt (ifB (hidden us i) (viewAll us l) (⟨i, y⟩ :: viewAll us l)) n
    cases hidden us i with
    | true => exact (viewAll_srt us h.2).mono (Nat.le_of_lt h.1)
    | false => exact ⟨h.1, viewAll_srt us h.2⟩
def ViewOK (us : List Rc) (l v : List Hp) : Prop := (∀ b x, hget v b = some x → hget l b = some x ∧ ∀ r ∈ us, (b < r.lo ∨ r.hi ≤ b) ∧ b ∉ r.wr) ∧ ∀ n, Srt l n → Srt v n
theorem viewNil_ok (us : List Rc) (l : List Hp) : ViewOK us l [] := ⟨fun b x h => (by cases h), fun _ _ => trivial⟩
theorem viewAll_ok (us : List Rc) (l : List Hp) : ViewOK us l (viewAll us l) := ⟨fun b x h => let ⟨h1, h2⟩ := viewAll_get us l b x h; ⟨h1, fun r hr => touched_no (hidden_no h2 r hr)⟩, fun _ h => viewAll_srt us h⟩
theorem viewOne_ok (us : List Rc) (l : List Hp) (c : Nat) : ViewOK us l (viewOne us l c) := by
  unfold viewOne
  cases hh : hidden us c with
  | true => exact viewNil_ok us l
  | false =>
    rw [ifB_false]
    cases hx : hget l c with
    | none => exact viewNil_ok us l
    | some y =>
      refine ⟨fun b x h => ?_, fun n hs => ⟨hs.lt hx, trivial⟩⟩
      replace h : hget [⟨c, y⟩] b = some x := h
      rw [hget_cons] at h
      split at h
      · rename_i e; subst e; cases h; exact ⟨hx, fun r hr => touched_no (hidden_no hh r hr)⟩
      · cases h
theorem viewPtr_ok (us : List Rc) (l : List Hp) (env : T) (a : Operand) : ViewOK us l (viewPtr us l env a) := by
  unfold viewPtr
  cases opv env a with
  | none => exact viewNil_ok us l
  | some p =>
    cases p with
    | ptr b off => exact viewOne_ok us l b
    | _ => exact viewNil_ok us l
theorem viewRest_ok (us : List Rc) (l : List Hp) : ViewOK us l (List.rec l (fun _ _ _ => viewAll us l) us) := by
  cases us with
  | nil => exact ⟨fun b x h => ⟨h, fun r hr => (by cases hr)⟩, fun _ h => h⟩
  | cons r us => exact viewAll_ok _ l
theorem viewOf_ok (us : List Rc) (l : List Hp) (env : T) (op : Op) : ViewOK us l (viewOf us l env op) := by
  unfold viewOf
  split
  · exact viewPtr_ok _ _ _ _
  · exact viewPtr_ok _ _ _ _
  · exact viewRest_ok us l
  · exact viewRest_ok us l
  · exact viewNil_ok us l
theorem inner_no {b : Nat} {us : List Rc} (h : (List.rec false (fun r _ ih => ifB (memN b r.vis) true ih) us : Bool) = false) : ∀ r ∈ us, b ∉ r.vis := by
  induction us with
  | nil => intro r hr; cases hr
  | cons a l ih =>
    intro r hr
    replace h : ifB (memN b a.vis) true (List.rec false (fun r _ ih => ifB (memN b r.vis) true ih) l) = false := h
    cases ha : memN b a.vis with
    | true => rw [ha] at h; cases h
    | false =>
      rw [ha, ifB_false] at h
      rcases List.mem_cons.1 hr with rfl | hr
      · exact fun hm => by rw [memN_eq.2 hm] at ha; cases ha
      · exact ih h r hr
theorem unseen_no {us : List Rc} {L : List Nat} (h : unseen us L = true) : ∀ b ∈ L, ∀ r ∈ us, b ∉ r.vis := by
  induction L with
  | nil => intro b hb; cases hb
  | cons c L ih =>
    intro b hb
    replace h : ifB (List.rec false (fun r _ ih => ifB (memN c r.vis) true ih) us) false (unseen us L) = true := h
    cases hc : (List.rec false (fun r _ ih => ifB (memN c r.vis) true ih) us : Bool) with
    | true => rw [hc] at h; cases h
    | false =>
      rw [hc, ifB_false] at h
      rcases List.mem_cons.1 hb with rfl | hb
      · exact inner_no hc
      · exact ih h b hb
theorem cleanV_av {us : List Rc} {v : SV} (h : cleanV us v = true) : ∀ r ∈ us, Av r.lo r.hi v := by
  induction us with
  | nil => intro r hr; cases hr
  | cons a l ih =>
    intro r hr
    obtain ⟨h1, h2⟩ := ifB_and (show ifB (v.avoids a.lo a.hi) (cleanV l v) false = true from h)
    rcases List.mem_cons.1 hr with rfl | hr
    · exact avoids_av v h1
    · exact ih h2 r hr
theorem cleanCells_av {us : List Rc} {cs : List SV} (h : (List.rec true (fun r _ ih => ifB (avoidAll r.lo r.hi cs) ih false) us : Bool) = true) : ∀ r ∈ us, ∀ c ∈ cs, Av r.lo r.hi c := by
  induction us with
  | nil => intro r hr; cases hr
  | cons a l ih =>
    intro r hr
    obtain ⟨h1, h2⟩ := ifB_and (show ifB (avoidAll a.lo a.hi cs) (List.rec true (fun r _ ih => ifB (avoidAll r.lo r.hi cs) ih false) l) false = true from h)
    rcases List.mem_cons.1 hr with rfl | hr
    · exact avoidAll_av cs h1
    · exact ih h2 r hr
theorem cleanB_av {us : List Rc} {l : List Hp} (h : cleanB us l = true) : ∀ x ∈ l, ∀ r ∈ us, ∀ c ∈ x.b.cells, Av r.lo r.hi c := by
  induction l with
  | nil => intro x hx; cases hx
  | cons a l ih =>
    intro x hx
    have h' : ifB (List.rec true (fun r _ ih => ifB (avoidAll r.lo r.hi a.b.cells) ih false) us) (cleanB us l) false = true := h
    obtain ⟨h1, h2⟩ := ifB_and h'
    rcases List.mem_cons.1 hx with rfl | hx
    · exact cleanCells_av h1
    · exact ih h2 x hx
theorem written_mem {v : List Hp} {b : Nat} {x : B} (hx : hget v b = some x) : ∀ {L : List Nat}, b ∈ L → (⟨b, x⟩ : Hp) ∈ written v L
  | c :: L, h => by
    have e : written v (c :: L) = Option.rec (written v L) (fun bl => ⟨c, bl⟩ :: written v L) (hget v c) := rfl
    rw [e]
    rcases List.mem_cons.1 h with rfl | h
    · rw [hx]; exact List.mem_cons_self
    · have := written_mem hx h
      cases hget v c with
      | none => exact this
      | some y => exact List.mem_cons_of_mem _ this
theorem ids_mem {l : List Hp} {b : Nat} {x : B} (h : hget l b = some x) : b ∈ idsOf l := by
  induction l with
  | nil => cases h
  | cons a l ih =>
    obtain ⟨i, y⟩ := a
    rw [hget_cons] at h
    show b ∈ i :: idsOf l
    split at h
    · rename_i e; subst e; exact List.mem_cons_self
    · exact List.mem_cons_of_mem _ (ih h)

/-- One step of the pass. -/
def StepR (P : Program) (call : Caller) (cx : Cx) (ops : Array Oper) (o : Oper) (bj j : Nat) (d : Dr) (e : Ef) (d1 : Dr) : Prop :=
  e.dst = o.dst ∧ e.lo = d.1.n ∧ e.hi = d1.1.n ∧ isDefer o.op = false ∧
  putSt cx o.dst e.val ⟨d.1.env, newer e.lo e.h1 ++ update e.h1 e.wr d.1.heap, e.hi, olds cx.base e.wr ++ d.1.log, d.1.defs⟩ = some d1.1 ∧
  ViewOK (unord bj d.2) d.1.heap e.view ∧
  ((wantedS ops o d.1.env = some false ∧ e.val = .v undef ∧ e.hi = e.lo ∧ e.wr = [] ∧ e.h1 = [] ∧ e.view = []) ∨
    (wantedS ops o d.1.env = some true ∧ ∃ env' defs', exOp P call ⟨e.lo, cx.N⟩ o ⟨d.1.env, e.view, e.lo, [], d.1.defs⟩ = some (e.val, ⟨env', e.h1, e.hi, e.wr, defs'⟩))) ∧
  d1.2 = ⟨j, e.lo, e.hi, e.wr, idsOf e.view⟩ :: d.2 ∧
  ∀ r ∈ unord bj d.2, (∀ b ∈ e.wr, b ∉ r.vis) ∧ Av r.lo r.hi e.val ∧ (∀ b x, hget (newer e.lo e.h1) b = some x → ∀ c ∈ x.cells, Av r.lo r.hi c) ∧ (∀ b x, b ∈ e.wr → hget e.h1 b = some x → ∀ c ∈ x.cells, Av r.lo r.hi c)
section
variable {P : Program} {call : Caller} {cx : Cx} {ops : Array Oper}
theorem step_of {o : Oper} {bj j : Nat} {d d1 : Dr} (h : drawOp P call ops j bj o cx d = some d1) : ∃ e, StepR P call cx ops o bj j d e d1 := by
  obtain ⟨⟨env, heap, n, log, defs⟩, rs⟩ := d
  obtain ⟨hd, h⟩ := guardO_eq.1 h
  have hd : isDefer o.op = false := by cases hx : isDefer o.op <;> simp_all
  obtain ⟨t, ht, h⟩ := bindO_eq.1 h
  cases t with
  | false =>
    obtain ⟨s, hs, h⟩ := bindO_eq.1 (show (bindO (putSt cx o.dst (.v undef) ⟨env, heap, n, log, defs⟩) fun s => some (s, (⟨j, n, n, [], []⟩ : Rc) :: rs)) = some d1 from h)
    cases h
    refine ⟨⟨o.dst, .v undef, n, n, [], [], []⟩, rfl, rfl, ((putSt_eq hs).2.1).symm, hd, hs, viewNil_ok _ _, .inl ⟨ht, rfl, rfl, rfl, rfl, rfl⟩, rfl, fun r hr => ⟨fun b hb => (by cases hb), ?_, fun b x hx => (by cases hx), fun b x hb => (by cases hb)⟩⟩
    exact (Sc.v 0 undef).av (Nat.zero_le _)
  | true =>
    obtain ⟨⟨v, ⟨env1, h1, n1, L, defs1⟩⟩, hex, h⟩ := bindO_eq.1 (show (bindO (exOp P call ⟨n, cx.N⟩ o ⟨env, viewOf (unord bj rs) heap env o.op, n, [], defs⟩) fun r => r.2.on fun _ h1 n1 L _ =>
      guardO (unseen (unord bj rs) L) (guardO (cleanV (unord bj rs) r.1) (guardO (cleanB (unord bj rs) (newer n h1)) (guardO (cleanB (unord bj rs) (written h1 L))
      (bindO (putSt cx o.dst r.1 ⟨env, newer n h1 ++ update h1 L heap, n1, olds cx.base L ++ log, defs⟩) fun s => some (s, (⟨j, n, n1, L, idsOf (viewOf (unord bj rs) heap env o.op)⟩ : Rc) :: rs)))))) = some d1 from h)
    obtain ⟨g1, h⟩ := guardO_eq.1 h
    obtain ⟨g2, h⟩ := guardO_eq.1 h
    obtain ⟨g3, h⟩ := guardO_eq.1 h
    obtain ⟨g4, h⟩ := guardO_eq.1 h
    obtain ⟨s, hs, h⟩ := bindO_eq.1 h
    cases h
    refine ⟨⟨o.dst, v, n, n1, L, h1, viewOf (unord bj rs) heap env o.op⟩, rfl, rfl, ((putSt_eq hs).2.1).symm, hd, hs, viewOf_ok _ _ _ _, .inr ⟨ht, env1, defs1, hex⟩, rfl, fun r hr => ⟨fun b hb => unseen_no g1 b hb r hr, cleanV_av g2 r hr, fun b x hx => cleanB_av g3 _ (hget_mem hx) r hr, fun b x hb hx => cleanB_av g4 _ (written_mem hx hb) r hr⟩⟩
theorem draw_chain : ∀ (l : List (Oper × Nat)) (j : Nat) (d d' : Dr), exDrawL P call cx ops l j d = some d' →
    ∃ (T : Nat → Dr) (E : Nat → Ef), T 0 = d ∧ T l.length = d' ∧ ∀ t o, l[t]? = some o → StepR P call cx ops o.1 o.2 (j + t) (T t) (E t) (T (t + 1))
  | [], j, d, d', h => by cases h; exact ⟨fun _ => d, fun _ => ⟨none, .v undef, 0, 0, [], [], []⟩, rfl, rfl, fun t o h => by simp at h⟩
  | o :: l, j, d, d', h => by
    obtain ⟨d1, h1, h⟩ := bindO_eq.1 (show (bindO (drawOp P call ops j o.2 o.1 cx d) fun d => force (Nat.succ j) fun j => exDrawL P call cx ops l j d) = some d' from h)
    rw [force_eq] at h
    obtain ⟨e, he⟩ := step_of h1
    obtain ⟨T, E, t0, tl, hs⟩ := draw_chain l (j + 1) d1 d' h
    refine ⟨fun t => match t with | 0 => d | t + 1 => T t, fun t => match t with | 0 => e | t + 1 => E t, rfl, tl, fun t o' ho => ?_⟩
    cases t with
    | zero =>
      simp only [List.getElem?_cons_zero, Option.some.injEq] at ho
      subst ho
      show StepR P call cx ops o.1 o.2 (j + 0) d e (T 0)
      rw [t0]; exact he
    | succ t =>
      have := hs t o' (by simpa using ho)
      rw [show j + 1 + t = j + (t + 1) by omega] at this
      exact this
theorem pass_of {l : List (Oper × Nat)} (hp : planOf ops = some l) {s : St} {d : Dr} (h : exDrawL P call cx ops l 0 (s, []) = some d) :
    ∃ (S : Nat → St) (E : Nat → Ef), S 0 = s ∧ S ops.size = d.1 ∧ Pass P call cx ops (befOf ops) S E := by
  obtain ⟨T, E, t0, tl, hs⟩ := draw_chain l 0 (s, []) d h
  have hlen : l.length = ops.size := by
    obtain ⟨rfl, -⟩ := hasBit_before hp
    simp [before_size]
  have hstep : ∀ j o, ops[j]? = some o → StepR P call cx ops o (befOf ops j) j (T j) (E j) (T (j + 1)) := fun j o ho => by
    obtain ⟨b, hb, hl⟩ := plan_get hp ho
    have := hs j _ hl
    rw [Nat.zero_add] at this
    rw [befOf_eq hb]
    exact this
  have recs : ∀ j, j ≤ ops.size → ∀ k, k < j → (⟨k, (E k).lo, (E k).hi, (E k).wr, idsOf (E k).view⟩ : Rc) ∈ (T j).2 := by
    intro j
    induction j with
    | zero => intro _ k hk; omega
    | succ j ih =>
      intro hj k hk
      obtain ⟨-, -, -, -, -, -, -, hr, -⟩ := hstep j _ (Array.getElem?_eq_getElem (show j < ops.size by omega))
      rw [hr]
      by_cases h : k = j
      · subst h; exact List.mem_cons_self
      · exact List.mem_cons_of_mem _ (ih (by omega) k (by omega))
  refine ⟨fun j => (T j).1, E, by show (T 0).1 = s; rw [t0], by show (T ops.size).1 = d.1; rw [← hlen, tl], ⟨fun j o ho => ?_, fun k j ok oj hlt hk hj hb => ?_, fun j o cs b ho => ?_⟩⟩
  · obtain ⟨a1, a2, a3, a4, a5, a6, a7, -⟩ := hstep j o ho
    exact ⟨a1, a2, a3, a4, a5, fun b x hx => (a6.1 b x hx).1, a6.2, a7⟩
  · obtain ⟨a1, a2, a3, a4, a5, a6, a7, a8, a9⟩ := hstep j oj hj
    obtain ⟨b, hbb, hl⟩ := plan_get hp hj
    have hmem : (⟨k, (E k).lo, (E k).hi, (E k).wr, idsOf (E k).view⟩ : Rc) ∈ unord (befOf ops j) (T j).2 := unord_mem.2 ⟨recs j (by have := (Array.getElem?_eq_some_iff.1 hj).1; omega) k hlt, hb⟩
    obtain ⟨g1, g2, g3, g4⟩ := a9 _ hmem
    refine ⟨slots_apart hp hk hj hbb hlt (by rw [← befOf_eq hbb]; exact hb), fun b x hx => (a6.1 b x hx).2 _ hmem, fun b hbw => ?_, g2, g3, g4⟩
    cases hx : hget (E k).view b with
    | none => rfl
    | some x => exact absurd (ids_mem hx) (g1 b hbw)
  · exact Region.noSelect_spec (hasBit_before hp).2.1 j o cs b ho
theorem known_first {bef : Nat → Nat} {S : Nat → St} {E : Nat → Ef} {ρ0 : Va} {N M : Nat} (pa : Pass P call cx ops bef S E) (hM : M ≤ ops.size) (hF : ∀ j, j < M → Fact (E j)) (z : Start ρ0 (S 0) N) {D : Nat → Bool} : ∀ {j : Nat}, j ≤ M → ∀ {b x}, b < (S 0).n → heapAt E D (hget (S 0).heap) j b = some x → ∃ y, hget (S 0).heap b = some y
  | 0, _, b, x, _, h => ⟨x, h⟩
  | j + 1, hj, b, x, hb, h => by
    unfold heapAt at h
    split at h
    · unfold Ef.app at h
      have := n_le pa hM hF (Nat.zero_le j) (by omega)
      rw [← (pa.bounds (show j < ops.size by omega)).1] at this
      rw [if_neg (by omega)] at h
      split at h
      · split at h
        · obtain ⟨u, hu, -⟩ := Option.map_eq_some_iff.1 h
          exact known_first pa hM hF z (by omega) hb hu
        · cases h
      · exact known_first pa hM hF z (by omega) hb h
    · exact known_first pa hM hF z (by omega) hb h
theorem log_all {bef : Nat → Nat} {S : Nat → St} {E : Nat → Ef} (pa : Pass P call cx ops bef S E) {b : Nat} (hb : b < cx.base) : ∀ {j : Nat}, j ≤ ops.size → (b ∈ (S j).log ↔ (∃ k, k < j ∧ b ∈ (E k).wr) ∨ b ∈ (S 0).log)
  | 0, _ => ⟨.inr, fun h => h.resolve_left (by rintro ⟨k, hk, -⟩; omega)⟩
  | j + 1, hj => by
    obtain ⟨-, -, -, -, hput, -⟩ := pa.step j _ (Array.getElem?_eq_getElem (show j < ops.size by omega))
    rw [(putSt_eq hput).2.2.1]
    show b ∈ olds cx.base (E j).wr ++ (S j).log ↔ _
    rw [List.mem_append, olds_mem, log_all pa hb (show j ≤ ops.size by omega)]
    constructor
    · rintro (⟨h, -⟩ | ⟨k, hk, h⟩ | h)
      · exact .inl ⟨j, by omega, h⟩
      · exact .inl ⟨k, by omega, h⟩
      · exact .inr h
    · rintro (⟨k, hk, h⟩ | h)
      · by_cases hkj : k = j
        · subst hkj; exact .inl ⟨h, hb⟩
        · exact .inr (.inl ⟨k, by omega, h⟩)
      · exact .inr (.inr h)
theorem HpOK.world {ρ : Va} {n : Nat} {l : List Hp} {w w' : World} (h : HpOK ρ n l w) (hw : w'.heap = w.heap) : HpOK ρ n l w' := ⟨h.srt, h.sc, fun b bl hb => (h.bk b bl hb).heap hw, h.inj, h.glob, h.big⟩
/-- A region whose order is open. -/
theorem exDraw_ok (hc : CallerOK P call) (hm : P.follows .mixedOrders = true) {id : Nat} {s s' : St} {ρ : Va} {a : Act} {w : World} (h : exDraw P call cx ops s = some s') (hok : Ok cx.N ρ s a w) {Q : Exit → Act → World → Prop}
    (hq : ∀ ρ' a' w', Ok cx.N ρ' s' a' w' → Mv cx.base ρ s w ρ' s' w' → Q .normal a' w') : (Code.region id ops true).wp P Q a w := by
  obtain ⟨l, hp, h⟩ := bindO_eq.1 h
  obtain ⟨d, hd, h⟩ := bindO_eq.1 h
  cases h
  obtain ⟨S, E, rfl, hSm, pa⟩ := pass_of hp hd
  let w1 : World := { w with drawn := w.drawn + 1 }
  have hok1 : Ok cx.N ρ (S 0) a w1 := ⟨hok.env, hok.hp.world rfl, hok.size⟩
  have z : Start ρ (S 0) a.tmps.size := ⟨hok.hp.srt, hok.hp.sc, hok.env.sc, fun k x hk => (Array.getElem?_eq_some_iff.1 (hok.env.env k x hk)).1, hok.hp.glob, hok.hp.big⟩
  obtain ⟨hF, -⟩ := facts_all (w0 := w1) hc pa z hok.size hok1 rfl ops.size (Nat.le_refl _)
  refine wp_region_any hm (any_ok hc hp pa z hok.size hF (fun ρ' a' w' inv => ?_) ops.size _ ρ a w1 (by simp) (by simp) (fun j o hj => ?_) (inv_start z hok1 rfl fun k => ?_))
  · have c1 := heapAt_congr (E := E) (D := fun j => decide (j < ops.size)) (D' := fun _ => true) (f := hget (S 0).heap) (j := ops.size) fun k hk => by simp [hk]
    have c2 := slotAt_congr (E := E) (D := fun j => decide (j < ops.size)) (D' := fun _ => true) (g := (S 0).env.get) (j := ops.size) fun k hk => by simp [hk]
    obtain ⟨hsS, hgS⟩ := heap_S pa (Nat.le_refl _) hF z (Nat.le_refl _)
    have hle : (S 0).n ≤ (S ops.size).n := n_le pa (Nat.le_refl _) hF (Nat.zero_le _) (Nat.le_refl _)
    have hheap : ∀ {b x}, hget (S ops.size).heap b = some x → heapAt E (fun j => decide (j < ops.size)) (hget (S 0).heap) ops.size b = some x := fun {b x} hx => by rw [c1, ← hgS b]; exact hx
    have ag0 := agr0 pa (Nat.le_refl _) hF (D := fun j => decide (j < ops.size)) (fun k hk => by simpa using hk) inv
    have hdefs : (S ops.size).defs = (S 0).defs := by
      have : ∀ j, j ≤ ops.size → (S j).defs = (S 0).defs := by
        intro j
        induction j with
        | zero => intro _; rfl
        | succ j ih =>
          intro hj
          obtain ⟨-, -, -, -, hp, -⟩ := pa.step j _ (Array.getElem?_eq_getElem (show j < ops.size by omega))
          exact ((putSt_eq hp).2.2.2.1).trans (ih (by omega))
      exact this _ (Nat.le_refl _)
    rw [← hSm] at hq
    refine hq ρ' a' w' ⟨⟨fun k x hk => inv.slot k x (by rw [c2]; exact slot_S pa (Nat.le_refl _) hk), fun k x hk => slot_sc pa (Nat.le_refl _) hF z (Nat.le_refl _) (slot_S pa (Nat.le_refl _) hk), ?_⟩, ⟨hsS, fun b x hx => ?_, fun b x hx => inv.bk b x (hheap hx), fun b b' x y hx hy => inv.inj b b' x y (hheap hx) (hheap hy), fun g hg => ?_, Nat.le_trans z.big hle⟩, by rw [inv.tmps]; exact hok.size⟩ ⟨(List.range ops.size).flatMap fun j => (E j).wr, ?_, fun b hb => ?_⟩
    · rw [hdefs]; exact inv.defs.move hle fun b hb => ⟨rfl, rfl⟩
    · rw [hgS b] at hx; exact heap_sc pa (Nat.le_refl _) hF z (Nat.le_refl _) hx
    · rw [(ag0 g (by have := z.big; omega)).1]; exact z.glob g hg
    · have hmemL : ∀ {j b}, j < ops.size → b ∈ (E j).wr → b ∈ (List.range ops.size).flatMap fun j => (E j).wr := fun {j b} hj hb => List.mem_flatMap.2 ⟨j, List.mem_range.2 hj, hb⟩
      refine ⟨hle, inv.size, fun b hb => inv.agr b fun j hj => ?_, fun b hb y hy => known_first pa (Nat.le_refl _) hF z (Nat.le_refl _) hb (hheap hy), fun r hr hno => inv.frame r hr fun j b hj hb => hno b (hmemL (by simpa using hj) hb), fun b hb hbn => ?_, fun b hb y hy => ?_, ⟨inv.side.os, inv.side.tape, inv.side.output⟩⟩
      · have hj : j < ops.size := by simpa using hj
        obtain ⟨e1, e2⟩ := pa.bounds hj
        have h1 := n_le pa (Nat.le_refl _) hF (Nat.zero_le j) (Nat.le_of_lt hj)
        have h2 := n_le pa (Nat.le_refl _) hF (show j + 1 ≤ ops.size from hj) (Nat.le_refl _)
        omega
      · obtain ⟨j, hj, hbw⟩ := List.mem_flatMap.1 hb
        have hj := List.mem_range.1 hj
        obtain ⟨-, y, hy⟩ := (hF j hj).wr b hbw
        obtain ⟨-, -, -, -, -, hsub, -⟩ := pa.step j _ (Array.getElem?_eq_getElem hj)
        have h1 := hsub b y hy
        rw [(heap_S pa (Nat.le_refl _) hF z (Nat.le_of_lt hj)).2 b] at h1
        exact known_first pa (Nat.le_refl _) hF z (Nat.le_of_lt hj) hbn h1
      · rcases inv.new b hb y (hheap hy) with h | ⟨j, b', hj, hb', hlt, he⟩
        · exact .inl h
        · exact .inr ⟨b', hmemL (by simpa using hj) hb', hlt, he⟩
    · rw [log_all pa hb (Nat.le_refl _), List.mem_flatMap]
      constructor
      · rintro (⟨k, hk, h⟩ | h)
        · exact .inl ⟨k, List.mem_range.2 hk, h⟩
        · exact .inr h
      · rintro (⟨k, hk, h⟩ | h)
        · exact .inl ⟨k, List.mem_range.1 hk, h⟩
        · exact .inr h
  · have : (Array.replicate ops.size false).getD j false = false := by
      rw [Array.getD_eq_getD_getElem?]
      by_cases hj' : j < ops.size
      · simp [hj']
      · simp [hj']
    rw [this] at hj
    cases hj
  · show (Array.replicate ops.size false).getD k false = false
    rw [Array.getD_eq_getD_getElem?]
    by_cases hj' : k < ops.size
    · simp [hj']
    · simp [hj']
end
end Go.Ex
