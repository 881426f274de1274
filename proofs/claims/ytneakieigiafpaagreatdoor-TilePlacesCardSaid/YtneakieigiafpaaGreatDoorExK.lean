/- Regions whose order is open: one operation more, whichever was drawn. -/
import Derived.Test.YtneakieigiafpaaGreatDoorExJ
namespace Go.Ex
open Go

/-- What the runner's pass over a region's operations found: S the states, E what each did. -/
structure Pass (P : Program) (call : Caller) (cx : Cx) (ops : Array Oper) (bef : Nat → Nat) (S : Nat → St) (E : Nat → Ef) : Prop where
  step : ∀ j o, ops[j]? = some o → (E j).dst = o.dst ∧ (E j).lo = (S j).n ∧ (E j).hi = (S (j + 1)).n ∧ isDefer o.op = false ∧
    putSt cx o.dst (E j).val ⟨(S j).env, newer (E j).lo (E j).h1 ++ update (E j).h1 (E j).wr (S j).heap, (E j).hi, olds cx.base (E j).wr ++ (S j).log, (S j).defs⟩ = some (S (j + 1)) ∧
    (∀ b x, hget (E j).view b = some x → hget (S j).heap b = some x) ∧ (∀ n, Srt (S j).heap n → Srt (E j).view n) ∧
    ((wantedS ops o (S j).env = some false ∧ (E j).val = .v undef ∧ (E j).hi = (E j).lo ∧ (E j).wr = [] ∧ (E j).h1 = [] ∧ (E j).view = []) ∨
     (wantedS ops o (S j).env = some true ∧ ∃ env' defs', exOp P call ⟨(E j).lo, cx.N⟩ o ⟨(S j).env, (E j).view, (E j).lo, [], (S j).defs⟩ = some ((E j).val, ⟨env', (E j).h1, (E j).hi, (E j).wr, defs'⟩)))
  free : ∀ k j ok oj, k < j → ops[k]? = some ok → ops[j]? = some oj → hasBit (bef j) k = false → ok.apart ops oj = true ∧
    (∀ b x, hget (E j).view b = some x → (b < (E k).lo ∨ (E k).hi ≤ b) ∧ b ∉ (E k).wr) ∧
    (∀ b ∈ (E j).wr, hget (E k).view b = none) ∧ Av (E k).lo (E k).hi (E j).val ∧
    (∀ b x, hget (newer (E j).lo (E j).h1) b = some x → ∀ c ∈ x.cells, Av (E k).lo (E k).hi c) ∧
    (∀ b x, b ∈ (E j).wr → hget (E j).h1 b = some x → ∀ c ∈ x.cells, Av (E k).lo (E k).hi c)
  sel : ∀ (j : Nat) (o : Oper) (cs : Array SelectCase) (b : Bool), ops[j]? = some o → o.op ≠ .select cs b
/-- What an operation that was run says of what it did. -/
structure Fact (e : Ef) : Prop where
  le : e.lo ≤ e.hi
  srt : Srt e.h1 e.hi
  sc : ∀ b x, hget e.h1 b = some x → ∀ c ∈ x.cells, Sc e.hi c
  val : Sc e.hi e.val
  nrev : ∀ b, b < e.lo → ∀ y, hget e.h1 b = some y → ∃ x, hget e.view b = some x
  wr : ∀ b ∈ e.wr, b < e.lo ∧ ∃ x, hget e.view b = some x
/-- The state at the region's beginning. -/
structure Start (ρ : Va) (s : St) (N : Nat) : Prop where
  srt : Srt s.heap s.n
  hsc : ∀ b x, hget s.heap b = some x → ∀ c ∈ x.cells, Sc s.n c
  ssc : ∀ k x, s.env.get k = some x → Sc s.n x
  slt : ∀ k x, s.env.get k = some x → k < N
  glob : ∀ g, g < 4096 → ρ.blk g = g
  big : 4096 ≤ s.n
/-- Operation i may come next, of those below M those in D being done. -/
structure Rdy (M : Nat) (bef : Nat → Nat) (D : Nat → Bool) (i : Nat) : Prop where
  un : D i = false
  lt : i ≤ M
  don : ∀ k, D k = true → k < M
  bf : ∀ k, k < i → D k = false → hasBit (bef i) k = false
  af : ∀ k, D k = true → i < k → hasBit (bef k) i = false
/-- A frame and a world behind those in D. -/
structure Inv (ops : Array Oper) (S : Nat → St) (E : Nat → Ef) (N : Nat) (ρ0 : Va) (w0 : World) (D : Nat → Bool) (ρ : Va) (a : Act) (w : World) : Prop where
  slot : ∀ k x, slotAt E D (S 0).env.get ops.size k = some x → a.tmps[k]? = some (x.conc ρ)
  bk : ∀ b x, heapAt E D (hget (S 0).heap) ops.size b = some x → BkOK ρ w b x
  inj : ∀ b b' x y, heapAt E D (hget (S 0).heap) ops.size b = some x → heapAt E D (hget (S 0).heap) ops.size b' = some y → ρ.blk b = ρ.blk b' → b = b'
  agr : ∀ b, (∀ j, D j = true → b < (E j).lo ∨ (E j).hi ≤ b) → ρ.blk b = ρ0.blk b ∧ ρ.cap b = ρ0.cap b
  size : w0.heap.size ≤ w.heap.size
  frame : ∀ r, r < w0.heap.size → (∀ j b, D j = true → b ∈ (E j).wr → b < (S 0).n → ρ0.blk b ≠ r) → w.heap[r]? = w0.heap[r]?
  new : ∀ b, (S 0).n ≤ b → ∀ y, heapAt E D (hget (S 0).heap) ops.size b = some y → w0.heap.size ≤ ρ.blk b ∨ ∃ j b', D j = true ∧ b' ∈ (E j).wr ∧ b' < (S 0).n ∧ ρ0.blk b' = ρ.blk b
  defs : DefOK ρ (S 0).n (S 0).defs a.defers
  tmps : a.tmps.size = N
  side : Side w0 w

theorem putSt_eq {cx : Cx} {d : Option Tmp} {v : SV} {s s' : St} (h : putSt cx d v s = some s') : s'.heap = s.heap ∧ s'.n = s.n ∧ s'.log = s.log ∧ s'.defs = s.defs ∧
    (∀ k, d = some k → k < cx.N) ∧ ∀ k x, s'.env.get k = some x → (d = some k ∧ x = v) ∨ (d ≠ some k ∧ s.env.get k = some x) := by
  cases d with
  | none => cases h; exact ⟨rfl, rfl, rfl, rfl, fun k h => (by cases h), fun k x h => .inr ⟨by simp, h⟩⟩
  | some j =>
    obtain ⟨env, heap, n, log, defs⟩ := s
    obtain ⟨h1, h⟩ := guardO_eq.1 (show guardO (Nat.ble (Nat.succ j) cx.N) ((env.put j v).strict fun env => some (⟨env, heap, n, log, defs⟩ : St)) = some s' from h)
    rw [T.strict_eq] at h
    cases h
    refine ⟨rfl, rfl, rfl, rfl, fun k hk => by cases hk; exact Nat.le_of_ble_eq_true h1, fun k x hk => ?_⟩
    by_cases hjk : j = k
    · subst hjk
      rw [T.put_eq] at hk
      cases hk
      exact .inl ⟨rfl, rfl⟩
    · rcases T.put_get hk with ⟨rfl, -⟩ | hk
      · exact absurd rfl hjk
      · exact .inr ⟨by simpa using hjk, hk⟩
theorem app_congr {e : Ef} {f f' : Nat → Option B} {b : Nat} (h : f b = f' b) : e.app f b = e.app f' b := by unfold Ef.app; rw [h]
section
variable {P : Program} {call : Caller} {cx : Cx} {ops : Array Oper} {bef : Nat → Nat} {S : Nat → St} {E : Nat → Ef} {M N i : Nat} {D : Nat → Bool} {ρ0 ρ : Va} {w0 w : World} {a : Act}

theorem Pass.bounds (pa : Pass P call cx ops bef S E) {j : Nat} (hj : j < ops.size) : (E j).lo = (S j).n ∧ (E j).hi = (S (j + 1)).n :=
  ⟨(pa.step j _ (Array.getElem?_eq_getElem hj)).2.1, (pa.step j _ (Array.getElem?_eq_getElem hj)).2.2.1⟩
theorem n_le (pa : Pass P call cx ops bef S E) (hM : M ≤ ops.size) (hF : ∀ j, j < M → Fact (E j)) : ∀ {k j : Nat}, j ≤ k → k ≤ M → (S j).n ≤ (S k).n
  | 0, j, h, _ => by have : j = 0 := by omega
                     subst this; exact Nat.le_refl _
  | k + 1, j, h, hk => by
    by_cases hj : j = k + 1
    · subst hj; exact Nat.le_refl _
    · have h1 := n_le pa hM hF (show j ≤ k by omega) (by omega)
      have h2 := (hF k (by omega)).le
      obtain ⟨e1, e2⟩ := pa.bounds (show k < ops.size by omega)
      omega
theorem heapAt_lt (pa : Pass P call cx ops bef S E) (hM : M ≤ ops.size) (hF : ∀ j, j < M → Fact (E j)) (z : Start ρ0 (S 0) N) {D : Nat → Bool} : ∀ {j : Nat}, j ≤ M → ∀ {b x}, heapAt E D (hget (S 0).heap) j b = some x → b < (S j).n
  | 0, _, b, x, h => z.srt.lt h
  | j + 1, hj, b, x, h => by
    have hle := n_le pa hM hF (show j ≤ j + 1 by omega) hj
    obtain ⟨e1, e2⟩ := pa.bounds (show j < ops.size by omega)
    unfold heapAt at h
    split at h
    · unfold Ef.app at h
      split at h
      · have := (hF j (by omega)).srt.lt h; omega
      · rename_i hlo; omega
    · exact Nat.lt_of_lt_of_le (heapAt_lt pa hM hF z (by omega) h) hle
theorem heap_S (pa : Pass P call cx ops bef S E) (hM : M ≤ ops.size) (hF : ∀ j, j < M → Fact (E j)) (z : Start ρ0 (S 0) N) : ∀ {j : Nat}, j ≤ M → Srt (S j).heap (S j).n ∧ ∀ b, hget (S j).heap b = heapAt E (fun _ => true) (hget (S 0).heap) j b
  | 0, _ => ⟨z.srt, fun _ => rfl⟩
  | j + 1, hj => by
    obtain ⟨h1, h2⟩ := heap_S pa hM hF z (show j ≤ M by omega)
    obtain ⟨e0, e1, e2, -, hput, -⟩ := pa.step j _ (Array.getElem?_eq_getElem (show j < ops.size by omega))
    obtain ⟨p1, p2, -⟩ := putSt_eq hput
    have f := hF j (by omega)
    rw [← e1] at h1
    rw [p1, p2]
    refine ⟨app_srt (E j) f.srt h1 f.le, fun b => ?_⟩
    rw [app_get (E j) f.srt h1]
    unfold heapAt
    rw [if_pos rfl]
    exact app_congr (h2 b)
theorem slot_S (pa : Pass P call cx ops bef S E) : ∀ {j : Nat}, j ≤ ops.size → ∀ {k x}, (S j).env.get k = some x → slotAt E (fun _ => true) (S 0).env.get j k = some x
  | 0, _, _, _, h => h
  | j + 1, hj, k, x, h => by
    obtain ⟨e0, e1, e2, -, hput, -⟩ := pa.step j _ (Array.getElem?_eq_getElem (show j < ops.size by omega))
    obtain ⟨-, -, -, -, -, p⟩ := putSt_eq hput
    unfold slotAt
    rcases p k x h with ⟨h1, rfl⟩ | ⟨h1, h2⟩
    · rw [if_pos ⟨rfl, e0.trans h1⟩]
    · rw [if_neg (by rw [e0]; exact fun hh => h1 hh.2)]
      exact slot_S pa (by omega) h2
theorem slot_lt (pa : Pass P call cx ops bef S E) (z : Start ρ0 (S 0) N) (hN : cx.N ≤ N) : ∀ {j : Nat}, j ≤ ops.size → ∀ {k x}, (S j).env.get k = some x → k < N
  | 0, _, _, _, h => z.slt _ _ h
  | j + 1, hj, k, x, h => by
    obtain ⟨e0, e1, e2, -, hput, -⟩ := pa.step j _ (Array.getElem?_eq_getElem (show j < ops.size by omega))
    obtain ⟨-, -, -, -, q, p⟩ := putSt_eq hput
    rcases p k x h with ⟨h1, rfl⟩ | ⟨h1, h2⟩
    · exact Nat.lt_of_lt_of_le (q k h1) hN
    · exact slot_lt pa z hN (by omega) h2
theorem slot_sc (pa : Pass P call cx ops bef S E) (hM : M ≤ ops.size) (hF : ∀ j, j < M → Fact (E j)) (z : Start ρ0 (S 0) N) : ∀ {j : Nat}, j ≤ M → ∀ {k x}, slotAt E (fun _ => true) (S 0).env.get j k = some x → Sc (S j).n x
  | 0, _, _, _, h => z.ssc _ _ h
  | j + 1, hj, k, x, h => by
    obtain ⟨e1, e2⟩ := pa.bounds (show j < ops.size by omega)
    unfold slotAt at h
    split at h
    · cases h
      have := (hF j (by omega)).val
      rwa [e2] at this
    · exact (slot_sc pa hM hF z (by omega) h).mono (n_le pa hM hF (show j ≤ j + 1 by omega) hj)
theorem heap_sc (pa : Pass P call cx ops bef S E) (hM : M ≤ ops.size) (hF : ∀ j, j < M → Fact (E j)) (z : Start ρ0 (S 0) N) : ∀ {j : Nat}, j ≤ M → ∀ {b x}, heapAt E (fun _ => true) (hget (S 0).heap) j b = some x → ∀ c ∈ x.cells, Sc (S j).n c
  | 0, _, _, _, h => z.hsc _ _ h
  | j + 1, hj, b, x, h => by
    obtain ⟨e1, e2⟩ := pa.bounds (show j < ops.size by omega)
    have f := hF j (by omega)
    have hle := n_le pa hM hF (show j ≤ j + 1 by omega) hj
    unfold heapAt at h
    rw [if_pos rfl] at h
    unfold Ef.app at h
    split at h
    · rw [← e2]; exact f.sc b x h
    · split at h
      · split at h
        · rename_i y hy
          obtain ⟨u, -, rfl⟩ := Option.map_eq_some_iff.1 h
          rw [← e2]; exact f.sc b _ hy
        · cases h
      · exact fun c hc => (heap_sc pa hM hF z (by omega) h c hc).mono hle

/-- What operation i was shown is still so. -/
theorem view_at (pa : Pass P call cx ops bef S E) (hM : M ≤ ops.size) (hF : ∀ j, j < M → Fact (E j)) (z : Start ρ0 (S 0) N) (r : Rdy M bef D i) (hi : i < ops.size) {b : Nat} {x : B} (hv : hget (E i).view b = some x) :
    ∀ j, i ≤ j → j ≤ ops.size → heapAt E D (hget (S 0).heap) j b = some x := by
  obtain ⟨e0, e1, e2, -, -, hsub, -⟩ := pa.step i _ (Array.getElem?_eq_getElem hi)
  have hS := hsub b x hv
  rw [(heap_S pa hM hF z r.lt).2 b] at hS
  have hb : b < (S i).n := heapAt_lt pa hM hF z r.lt hS
  have c1 : ∀ j, j ≤ i → heapAt E D (hget (S 0).heap) j b = heapAt E (fun _ => true) (hget (S 0).heap) j b := by
    intro j
    induction j with
    | zero => intro _; rfl
    | succ j ih =>
      intro hj
      have ih := ih (by omega)
      have hjM : j < M := by have := r.lt; omega
      unfold heapAt
      rw [if_pos (show (fun _ => true) j = true from rfl)]
      cases hDj : D j with
      | true => rw [if_pos rfl]; exact app_congr ih
      | false =>
        rw [if_neg (by simp), ih]
        obtain ⟨-, hv1, -⟩ := pa.free j i _ _ (by omega) (Array.getElem?_eq_getElem (show j < ops.size by omega)) (Array.getElem?_eq_getElem hi) (r.bf j (by omega) hDj)
        obtain ⟨h1, h2⟩ := hv1 b x hv
        obtain ⟨q1, q2⟩ := pa.bounds (show j < ops.size by omega)
        unfold Ef.app
        by_cases hlo : (E j).lo ≤ b
        · rw [if_pos hlo]
          have n1 : heapAt E (fun _ => true) (hget (S 0).heap) j b = none := by
            cases hx : heapAt E (fun _ => true) (hget (S 0).heap) j b with
            | none => rfl
            | some y => have := heapAt_lt pa hM hF z (by omega) hx; omega
          have n2 : hget (E j).h1 b = none := by
            cases hx : hget (E j).h1 b with
            | none => rfl
            | some y => have := (hF j hjM).srt.lt hx; omega
          rw [n1, n2]
        · rw [if_neg hlo, if_neg h2]
  intro j
  induction j with
  | zero =>
    intro h0 _
    have : i = 0 := by omega
    subst this
    rw [c1 0 (Nat.le_refl _)]; exact hS
  | succ j ih =>
    intro hij hj
    by_cases he : i = j + 1
    · rw [← he, c1 i (Nat.le_refl _)]; exact hS
    · have ih := ih (by omega) (by omega)
      unfold heapAt
      cases hDj : D j with
      | false => rw [if_neg (by simp)]; exact ih
      | true =>
        rw [if_pos rfl]
        have hne : i ≠ j := fun h => by subst h; rw [r.un] at hDj; cases hDj
        have hjM := r.don j hDj
        obtain ⟨-, -, h3, -⟩ := pa.free i j _ _ (by omega) (Array.getElem?_eq_getElem hi) (Array.getElem?_eq_getElem (show j < ops.size by omega)) (r.af j hDj (by omega))
        obtain ⟨q1, q2⟩ := pa.bounds (show j < ops.size by omega)
        have hle := n_le pa hM hF (show i ≤ j by omega) (by omega)
        unfold Ef.app
        rw [if_neg (by omega), if_neg (fun hm => by have := h3 b hm; rw [hv] at this; cases this)]
        exact ih
/-- Memory once operation i is done too. -/
theorem heap_upd (pa : Pass P call cx ops bef S E) (hM : M ≤ ops.size) (hF : ∀ j, j < M → Fact (E j)) (z : Start ρ0 (S 0) N) (r : Rdy M bef D i) (hi : i < ops.size) (fi : Fact (E i)) (b : Nat) :
    ∀ j, i + 1 ≤ j → j ≤ ops.size → heapAt E (upd D i) (hget (S 0).heap) j b = if (E i).lo ≤ b ∧ b < (E i).hi then hget (E i).h1 b else if b ∈ (E i).wr then hget (E i).h1 b else heapAt E D (hget (S 0).heap) j b := by
  obtain ⟨q1, q2⟩ := pa.bounds hi
  intro j
  induction j with
  | zero => intro h _; omega
  | succ j ih =>
    intro hij hj
    by_cases he : i = j
    · subst he
      have c := heapAt_congr (E := E) (D := upd D i) (D' := D) (f := hget (S 0).heap) (j := i) fun k hk => if_neg (by omega)
      unfold heapAt
      rw [if_pos (show upd D i i = true from if_pos rfl), c, r.un, if_neg (by simp : ¬ false = true)]
      unfold Ef.app
      by_cases hlo : (E i).lo ≤ b
      · rw [if_pos hlo]
        by_cases hhi : b < (E i).hi
        · rw [if_pos ⟨hlo, hhi⟩]
        · rw [if_neg (show ¬ ((E i).lo ≤ b ∧ b < (E i).hi) by omega), if_neg (fun hm => by have := (fi.wr b hm).1; omega)]
          have n1 : heapAt E D (hget (S 0).heap) i b = none := by
            cases hx : heapAt E D (hget (S 0).heap) i b with
            | none => rfl
            | some y => have := heapAt_lt pa hM hF z r.lt hx; have := fi.le; omega
          have n2 : hget (E i).h1 b = none := by
            cases hx : hget (E i).h1 b with
            | none => rfl
            | some y => have := fi.srt.lt hx; omega
          rw [n1, n2]
      · rw [if_neg hlo, if_neg (show ¬ ((E i).lo ≤ b ∧ b < (E i).hi) by omega)]
        by_cases hm : b ∈ (E i).wr
        · rw [if_pos hm, if_pos hm]
          obtain ⟨-, x, hx⟩ := fi.wr b hm
          rw [view_at pa hM hF z r hi hx i (Nat.le_refl _) (by omega)]
          cases hget (E i).h1 b <;> rfl
        · rw [if_neg hm, if_neg hm]
    · have ih := ih (by omega) (by omega)
      unfold heapAt
      rw [show upd D i j = D j from if_neg (by omega)]
      cases hDj : D j with
      | false => exact ih
      | true =>
        show (E j).app (heapAt E (upd D i) (hget (S 0).heap) j) b = if (E i).lo ≤ b ∧ b < (E i).hi then hget (E i).h1 b else if b ∈ (E i).wr then hget (E i).h1 b else (E j).app (heapAt E D (hget (S 0).heap) j) b
        have hjM := r.don j hDj
        obtain ⟨p1, p2⟩ := pa.bounds (show j < ops.size by omega)
        obtain ⟨-, h2, -⟩ := pa.free i j _ _ (by omega) (Array.getElem?_eq_getElem hi) (Array.getElem?_eq_getElem (show j < ops.size by omega)) (r.af j hDj (by omega))
        have hle : (S (i + 1)).n ≤ (S j).n := n_le pa hM hF (by omega) (by omega)
        have hfl := fi.le
        unfold Ef.app
        by_cases hlo : (E j).lo ≤ b
        · have hn : b ∉ (E i).wr := fun hm => by have := (fi.wr b hm).1; omega
          rw [if_pos hlo, if_neg (show ¬ ((E i).lo ≤ b ∧ b < (E i).hi) by omega), if_neg hn, if_pos hlo]
        · rw [if_neg hlo, if_neg hlo]
          by_cases hm : b ∈ (E j).wr
          · obtain ⟨-, x, hx⟩ := (hF j hjM).wr b hm
            obtain ⟨g1, g2⟩ := h2 b x hx
            have hn : ¬ ((E i).lo ≤ b ∧ b < (E i).hi) := by omega
            rw [if_pos hm, if_pos hm, if_neg hn, if_neg g2]
            rw [if_neg hn, if_neg g2] at ih
            rw [ih]
          · rw [if_neg hm, if_neg hm]; exact ih
/-- What operation i looks at is there. -/
theorem look_at (pa : Pass P call cx ops bef S E) (r : Rdy M bef D i) (hi : i < ops.size) {k : Nat} (hk : k ∈ ops[i].looksAt ops) {x : SV} (h : (S i).env.get k = some x) : slotAt E D (S 0).env.get ops.size k = some x := by
  have hS := slot_S pa (Nat.le_of_lt hi) h
  have c1 : ∀ j, j ≤ i → slotAt E D (S 0).env.get j k = slotAt E (fun _ => true) (S 0).env.get j k := by
    intro j
    induction j with
    | zero => intro _; rfl
    | succ j ih =>
      intro hj
      have ih := ih (by omega)
      obtain ⟨e0, -⟩ := pa.step j _ (Array.getElem?_eq_getElem (show j < ops.size by omega))
      unfold slotAt
      cases hDj : D j with
      | true => simp only [ih]
      | false =>
        obtain ⟨h1, -⟩ := pa.free j i _ _ (by omega) (Array.getElem?_eq_getElem (show j < ops.size by omega)) (Array.getElem?_eq_getElem hi) (r.bf j (by omega) hDj)
        have := (Oper.apart_spec h1).1 k
        rw [if_neg (by simp), if_neg (by rw [e0]; exact fun hh => this hh.2 hk)]
        exact ih
  have c2 : ∀ j, i ≤ j → j ≤ ops.size → slotAt E D (S 0).env.get j k = some x := by
    intro j
    induction j with
    | zero =>
      intro h0 _
      have : i = 0 := by omega
      subst this
      rw [c1 0 (Nat.le_refl _)]; exact hS
    | succ j ih =>
      intro hij hj
      by_cases he : i = j + 1
      · rw [← he, c1 i (Nat.le_refl _)]; exact hS
      · have ih := ih (by omega) (by omega)
        obtain ⟨e0, -⟩ := pa.step j _ (Array.getElem?_eq_getElem (show j < ops.size by omega))
        unfold slotAt
        rw [if_neg]
        · exact ih
        · rintro ⟨hDj, hd⟩
          have hne : i ≠ j := fun h => by subst h; rw [r.un] at hDj; cases hDj
          obtain ⟨h1, -⟩ := pa.free i j _ _ (by omega) (Array.getElem?_eq_getElem hi) (Array.getElem?_eq_getElem (show j < ops.size by omega)) (r.af j hDj (by omega))
          exact (Oper.apart_spec h1).2.2 k (by rw [← e0]; exact hd) hk
  exact c2 ops.size (by omega) (Nat.le_refl _)
theorem slot_upd (pa : Pass P call cx ops bef S E) (r : Rdy M bef D i) (hi : i < ops.size) (k : Nat) :
    ∀ j, i + 1 ≤ j → j ≤ ops.size → slotAt E (upd D i) (S 0).env.get j k = if (E i).dst = some k then some (E i).val else slotAt E D (S 0).env.get j k := by
  intro j
  induction j with
  | zero => intro h _; omega
  | succ j ih =>
    intro hij hj
    by_cases he : i = j
    · subst he
      have c := slotAt_congr (E := E) (D := upd D i) (D' := D) (g := (S 0).env.get) (j := i) fun k hk => if_neg (by omega)
      unfold slotAt
      rw [c, show upd D i i = true from if_pos rfl, r.un]
      simp
    · have ih := ih (by omega) (by omega)
      unfold slotAt
      rw [show upd D i j = D j from if_neg (by omega), ih]
      by_cases hc : D j = true ∧ (E j).dst = some k
      · rw [if_pos hc, if_pos hc]
        obtain ⟨hDj, hd⟩ := hc
        obtain ⟨e0, -⟩ := pa.step j _ (Array.getElem?_eq_getElem (show j < ops.size by omega))
        obtain ⟨e0', -⟩ := pa.step i _ (Array.getElem?_eq_getElem hi)
        obtain ⟨h1, -⟩ := pa.free i j _ _ (by omega) (Array.getElem?_eq_getElem hi) (Array.getElem?_eq_getElem (show j < ops.size by omega)) (r.af j hDj (by omega))
        rw [if_neg]
        intro hd'
        exact (Oper.apart_spec h1).2.1 k (by rw [← e0']; exact hd') (by rw [← e0]; exact hd)
      · rw [if_neg hc, if_neg hc]
theorem slot_av (pa : Pass P call cx ops bef S E) (hM : M ≤ ops.size) (hF : ∀ j, j < M → Fact (E j)) (z : Start ρ0 (S 0) N) (r : Rdy M bef D i) (hi : i < ops.size) : ∀ {j : Nat}, j ≤ ops.size → ∀ {k x}, slotAt E D (S 0).env.get j k = some x → Av (E i).lo (E i).hi x
  | 0, _, _, _, h => (z.ssc _ _ h).av (by rw [(pa.bounds hi).1]; exact n_le pa hM hF (Nat.zero_le _) r.lt)
  | j + 1, hj, k, x, h => by
    unfold slotAt at h
    split at h
    · rename_i hc
      cases h
      have hjM := r.don j hc.1
      have hne : i ≠ j := fun h => by subst h; rw [r.un] at hc; cases hc.1
      rcases Nat.lt_or_gt_of_ne hne with hlt | hgt
      · obtain ⟨-, -, -, h4, -⟩ := pa.free i j _ _ hlt (Array.getElem?_eq_getElem hi) (Array.getElem?_eq_getElem (show j < ops.size by omega)) (r.af j hc.1 hlt)
        exact h4
      · refine (hF j hjM).val.av ?_
        rw [(pa.bounds hi).1, (pa.bounds (show j < ops.size by omega)).2]
        exact n_le pa hM hF hgt r.lt
    · exact slot_av pa hM hF z r hi (by omega) h
theorem heap_av (pa : Pass P call cx ops bef S E) (hM : M ≤ ops.size) (hF : ∀ j, j < M → Fact (E j)) (z : Start ρ0 (S 0) N) (r : Rdy M bef D i) (hi : i < ops.size) : ∀ {j : Nat}, j ≤ ops.size → ∀ {b x}, heapAt E D (hget (S 0).heap) j b = some x → ∀ c ∈ x.cells, Av (E i).lo (E i).hi c
  | 0, _, _, _, h => fun c hc => (z.hsc _ _ h c hc).av (by rw [(pa.bounds hi).1]; exact n_le pa hM hF (Nat.zero_le _) r.lt)
  | j + 1, hj, b, x, h => by
    unfold heapAt at h
    split at h
    · rename_i hDj
      have hjM := r.don j hDj
      have fj := hF j hjM
      have hne : i ≠ j := fun h => by subst h; rw [r.un] at hDj; cases hDj
      have old : ∀ y, hget (E j).h1 b = some y → i > j → ∀ c ∈ y.cells, Av (E i).lo (E i).hi c := fun y hy hgt c hc => by
        refine (fj.sc b y hy c hc).av ?_
        rw [(pa.bounds hi).1, (pa.bounds (show j < ops.size by omega)).2]
        exact n_le pa hM hF hgt r.lt
      unfold Ef.app at h
      rcases Nat.lt_or_gt_of_ne hne with hlt | hgt
      · obtain ⟨-, -, -, -, h5, h6⟩ := pa.free i j _ _ hlt (Array.getElem?_eq_getElem hi) (Array.getElem?_eq_getElem (show j < ops.size by omega)) (r.af j hDj hlt)
        split at h
        · rename_i hlo
          exact h5 b x (by rw [newer_srt fj.srt, if_pos hlo]; exact h)
        · split at h
          · rename_i hm
            split at h
            · rename_i y hy
              obtain ⟨u, -, rfl⟩ := Option.map_eq_some_iff.1 h
              exact h6 b _ hm hy
            · cases h
          · exact heap_av pa hM hF z r hi (by omega) h
      · split at h
        · exact old x h hgt
        · split at h
          · split at h
            · rename_i y hy
              obtain ⟨u, -, rfl⟩ := Option.map_eq_some_iff.1 h
              exact old _ hy hgt
            · cases h
          · exact heap_av pa hM hF z r hi (by omega) h
    · exact heap_av pa hM hF z r hi (by omega) h
end
end Go.Ex
