/- ExJ, ExK, ExL, ExM: texts of one claim laid together. -/
import Derived.Test.YtneakieigiafpaaGreatDoorExI
/- Regions whose order is open: what comes before an operation; what the operations that were done make of memory and of the slots. -/
namespace Go.Ex
open Go

/-! ### What comes before an operation -/
theorem hasBit_eq (m i : Nat) : hasBit m i = m.testBit i := by
  have e : hasBit m i = ifB (Nat.beq ((m >>> i) % 2) 0) false true := rfl
  rw [e, Nat.testBit_eq_decide_div_mod_eq, Nat.shiftRight_eq_div_pow]
  have := Nat.mod_lt (m / 2 ^ i) (y := 2) (by decide)
  rcases beq_dec (m / 2 ^ i % 2) 0 with ⟨h1, h2⟩ | ⟨h1, h2⟩
  · rw [h1, ifB_true, h2]; rfl
  · rw [h1, ifB_false]; symm; exact decide_eq_true (by omega)
def oneB (look : Nat → Nat) (o : Oper) : Nat := o.after.foldl (fun s e => if Region.binds .any e then s ||| 2 ^ e.on ||| look e.on else s) 0
theorem oneB_bit {look : Nat → Nat} {o : Oper} {k : Nat} (h : (oneB look o).testBit k = true) : ∃ e ∈ o.after, Region.binds .any e = true ∧ (k = e.on ∨ (look e.on).testBit k = true) := by
  unfold oneB at h
  rw [← Array.foldl_toList] at h
  have : ∀ (l : List Edge) (s : Nat), (l.foldl (fun s e => if Region.binds .any e then s ||| 2 ^ e.on ||| look e.on else s) s).testBit k = true →
      s.testBit k = true ∨ ∃ e ∈ l, Region.binds .any e = true ∧ (k = e.on ∨ (look e.on).testBit k = true) := by
    intro l
    induction l with
    | nil => intro s h; exact .inl h
    | cons e l ih =>
      intro s h
      rcases ih _ h with h | ⟨e', h1, h2⟩
      · dsimp only at h
        by_cases hb : Region.binds .any e = true
        · rw [if_pos hb] at h
          simp only [Nat.testBit_or, Bool.or_eq_true, Nat.testBit_two_pow] at h
          rcases h with (h | h) | h
          · exact .inl h
          · exact .inr ⟨e, List.mem_cons_self, hb, .inl (of_decide_eq_true h).symm⟩
          · exact .inr ⟨e, List.mem_cons_self, hb, .inr h⟩
        · rw [if_neg hb] at h; exact .inl h
      · exact .inr ⟨e', List.mem_cons_of_mem _ h1, h2⟩
  rcases this _ 0 h with h | ⟨e, h1, h2⟩
  · simp at h
  · exact ⟨e, by simpa using h1, h2⟩
def pushB (acc : Array Nat) (o : Oper) : Array Nat := acc.push (oneB (fun i => acc.getD i 0) o)
theorem before_fold : ∀ (l : List Oper) (acc : Array Nat), (∀ (i v : Nat), acc[i]? = some v → (l.foldl pushB acc)[i]? = some v) ∧ (l.foldl pushB acc).size = acc.size + l.length ∧
    ∀ (t : Nat) (o : Oper), l[t]? = some o → ∃ acc' : Array Nat, (l.foldl pushB acc)[acc.size + t]? = some (oneB (fun i => acc'.getD i 0) o) ∧ acc'.size = acc.size + t ∧ ∀ (i v : Nat), acc'[i]? = some v → (l.foldl pushB acc)[i]? = some v
  | [], acc => ⟨fun _ _ h => h, rfl, fun t o h => by simp at h⟩
  | o :: l, acc => by
    obtain ⟨h1, h2, h3⟩ := before_fold l (pushB acc o)
    have hs : (pushB acc o).size = acc.size + 1 := by simp [pushB]
    have hp : ∀ (i v : Nat), acc[i]? = some v → (pushB acc o)[i]? = some v := fun i v h => by
      have hlt : i < acc.size := (Array.getElem?_eq_some_iff.1 h).1
      unfold pushB
      rw [Array.getElem?_push_lt hlt]
      rw [← h]
      simp [hlt]
    simp only [List.foldl_cons]
    refine ⟨fun i v h => h1 i v (hp i v h), by rw [h2, hs]; simp; omega, fun t o' ht => ?_⟩
    cases t with
    | zero =>
      cases ht
      refine ⟨acc, h1 _ _ ?_, rfl, fun i v h => h1 i v (hp i v h)⟩
      show (pushB acc o)[acc.size + 0]? = _
      simp [pushB]
    | succ t =>
      obtain ⟨acc', e1, e2, e3⟩ := h3 t o' (by simpa using ht)
      refine ⟨acc', ?_, by omega, e3⟩
      have : acc.size + (t + 1) = (pushB acc o).size + t := by omega
      rw [this]
      exact e1
theorem before_eq (ops : Array Oper) : Region.before ops = ops.toList.foldl pushB #[] := by
  unfold Region.before
  rw [← Array.foldl_toList]
  rfl
theorem before_size (ops : Array Oper) : (Region.before ops).size = ops.size := by
  rw [before_eq, (before_fold ops.toList #[]).2.1]
  simp
theorem before_spec {ops : Array Oper} {j b k : Nat} {o : Oper} (ho : ops[j]? = some o) (hb : (Region.before ops)[j]? = some b) (hk : b.testBit k = true) :
    ∃ e ∈ o.after, Region.binds .any e = true ∧ (k = e.on ∨ ∃ b', (Region.before ops)[e.on]? = some b' ∧ e.on < j ∧ b'.testBit k = true) := by
  obtain ⟨acc', e1, e2, e3⟩ := (before_fold ops.toList #[]).2.2 j o (by simpa using ho)
  rw [← before_eq] at e1 e3
  simp only [Array.size_empty, Nat.zero_add] at e1 e2
  rw [hb] at e1
  cases e1
  obtain ⟨e, h1, h2, h3⟩ := oneB_bit hk
  refine ⟨e, h1, h2, ?_⟩
  rcases h3 with h3 | h3
  · exact .inl h3
  · cases ha : acc'[e.on]? with
    | none => simp [Array.getD_eq_getD_getElem?, ha] at h3
    | some v =>
      simp only [Array.getD_eq_getD_getElem?, ha, Option.getD_some] at h3
      exact .inr ⟨v, e3 _ _ ha, by rw [← e2]; exact (Array.getElem?_eq_some_iff.1 ha).1, h3⟩
/-- Where the edges lead to what was done, so does what comes before. -/
theorem before_closed {ops : Array Oper} {D : Nat → Bool} (hD : ∀ j o, D j = true → ops[j]? = some o → ∀ e ∈ o.after, Region.binds .any e = true → D e.on = true) :
    ∀ (j : Nat) (o : Oper) (b : Nat), ops[j]? = some o → (∀ e ∈ o.after, Region.binds .any e = true → D e.on = true) → (Region.before ops)[j]? = some b → ∀ k, b.testBit k = true → D k = true := by
  intro j
  induction j using Nat.strongRecOn with
  | ind j ih =>
    intro o b ho he hb k hk
    obtain ⟨e, h1, h2, h3⟩ := before_spec ho hb hk
    rcases h3 with rfl | ⟨b', hb', hlt, hk'⟩
    · exact he e h1 h2
    · have hsz : e.on < ops.size := by
        have := (Array.getElem?_eq_some_iff.1 hb').1
        rwa [before_size] at this
      exact ih e.on hlt ops[e.on] b' (Array.getElem?_eq_getElem hsz) (hD e.on _ (he e h1 h2) (Array.getElem?_eq_getElem hsz)) hb' k hk'

/-! ### What a value hangs on -/
/-- It hangs on no name of [lo, hi). -/
def Av (lo hi : Nat) (x : SV) : Prop := ∀ ρ ρ' : Va, (∀ b, b < lo ∨ hi ≤ b → ρ'.blk b = ρ.blk b ∧ ρ'.cap b = ρ.cap b) → x.conc ρ' = x.conc ρ
theorem Sc.av {n lo hi : Nat} {x : SV} (h : Sc n x) (hle : n ≤ lo) : Av lo hi x := fun ρ ρ' ha => h ρ ρ' fun b hb => ha b (.inl (by omega))
theorem out_of {lo hi b : Nat} (h : ifB (Nat.ble lo b) (Nat.ble hi b) true = true) : b < lo ∨ hi ≤ b := by
  rcases ble_dec lo b with ⟨e, hle⟩ | ⟨e, hlt⟩
  · rw [e, ifB_true] at h; exact .inr (Nat.le_of_ble_eq_true h)
  · exact .inl hlt
theorem ifB_and {a b : Bool} (h : ifB a b false = true) : a = true ∧ b = true := by cases a <;> cases b <;> simp_all [ifB]
mutual
theorem avoids_av {lo hi : Nat} : ∀ x : SV, x.avoids lo hi = true → Av lo hi x
  | .v y, _ => fun ρ ρ' _ => by rw [conc_v, conc_v]
  | .ptr b off, h => fun ρ ρ' ha => by
    have := ha b (out_of (by simpa [SV.avoids] using h))
    rw [conc_ptr, conc_ptr, this.1]
  | .sl b off n (.ex c), h => fun ρ ρ' ha => by
    have := ha b (out_of (by simpa [SV.avoids] using h))
    rw [conc_ex, conc_ex, this.1]
  | .sl b off n (.un c), h => fun ρ ρ' ha => by
    have := ha b (out_of (by simpa [SV.avoids] using h))
    rw [conc_un, conc_un, this.1, this.2]
  | .fn f a c, h => fun ρ ρ' ha => by
    obtain ⟨h1, h2⟩ := ifB_and (show ifB (avoidAll lo hi a) (avoidAll lo hi c) false = true by simpa [SV.avoids] using h)
    rw [conc_fn, conc_fn, avoidAll_map a h1 ρ ρ' ha, avoidAll_map c h2 ρ ρ' ha]
  | .agg cs, h => fun ρ ρ' ha => by
    rw [conc_agg, conc_agg, avoidAll_map cs (by simpa [SV.avoids] using h) ρ ρ' ha]
  | .tup cs, h => fun ρ ρ' ha => by
    rw [conc_tup, conc_tup, avoidAll_map cs (by simpa [SV.avoids] using h) ρ ρ' ha]
theorem avoidAll_map {lo hi : Nat} : ∀ l : List SV, avoidAll lo hi l = true → ∀ ρ ρ' : Va, (∀ b, b < lo ∨ hi ≤ b → ρ'.blk b = ρ.blk b ∧ ρ'.cap b = ρ.cap b) → l.map (SV.conc ρ') = l.map (SV.conc ρ)
  | [], _, _, _, _ => rfl
  | x :: l, h, ρ, ρ', ha => by
    obtain ⟨h1, h2⟩ := ifB_and (show ifB (x.avoids lo hi) (avoidAll lo hi l) false = true by simpa [avoidAll] using h)
    rw [List.map_cons, List.map_cons, avoids_av x h1 ρ ρ' ha, avoidAll_map l h2 ρ ρ' ha]
end
theorem avoidAll_av {lo hi : Nat} : ∀ l : List SV, avoidAll lo hi l = true → ∀ x ∈ l, Av lo hi x
  | x :: l, h, y, hy => by
    obtain ⟨h1, h2⟩ := ifB_and (show ifB (x.avoids lo hi) (avoidAll lo hi l) false = true by simpa [avoidAll] using h)
    rcases List.mem_cons.1 hy with rfl | hy
    · exact avoids_av _ h1
    · exact avoidAll_av l h2 y hy

/-! ### Memory behind an operation -/
theorem newer_srt : ∀ {l : List Hp} {lo n : Nat}, Srt l n → ∀ b, hget (newer lo l) b = if lo ≤ b then hget l b else none
  | [], lo, n, _, b => by simp [newer, hget]
  | ⟨i, x⟩ :: l, lo, n, hs, b => by
    show hget (ifB (Nat.ble lo i) (⟨i, x⟩ :: newer lo l) []) b = _
    rcases ble_dec lo i with ⟨e, hle⟩ | ⟨e, hlt⟩
    · rw [e, ifB_true, hget_cons, hget_cons, newer_srt hs.2]
      by_cases hb : i = b
      · subst hb; rw [if_pos rfl, if_pos hle]
        rw [if_pos rfl]
      · rw [if_neg hb, if_neg hb]
    · rw [e, ifB_false]
      split
      · rename_i hb
        cases hx : hget (⟨i, x⟩ :: l) b with
        | none => rfl
        | some y =>
          rw [hget_cons] at hx
          split at hx
          · rename_i h; omega
          · have := Srt.lt hs.2 hx
            dsimp only at this
            omega
      · rfl
theorem hget_append (l m : List Hp) (b : Nat) : hget (l ++ m) b = (hget l b).or (hget m b) := by
  induction l with
  | nil => rfl
  | cons h l ih =>
    obtain ⟨i, x⟩ := h
    rw [List.cons_append, hget_cons, hget_cons, ih]
    split <;> rfl
theorem hdel_eq : ∀ {l : List Hp} {n : Nat} (k : Nat), Srt l n → ∀ j, hget (hdel l k) j = if j = k then none else hget l j
  | [], _, k, _, j => by simp [hdel, hget]
  | ⟨i, b⟩ :: l, n, k, hs, j => by
    show hget (ifB (Nat.beq i k) l (⟨i, b⟩ :: hdel l k)) j = _
    rcases beq_dec i k with ⟨e, rfl⟩ | ⟨e, hne⟩
    · rw [e, ifB_true, hget_cons]
      by_cases hj : j = i
      · subst hj
        rw [if_pos rfl]
        cases hx : hget l j with
        | none => rfl
        | some y => have := Srt.lt hs.2 hx; dsimp only at this; omega
      · rw [if_neg hj, if_neg (Ne.symm hj)]
    · rw [e, ifB_false, hget_cons, hget_cons, hdel_eq k hs.2]
      by_cases hj : i = j
      · subst hj; rw [if_pos rfl, if_neg hne, if_pos rfl]
      · rw [if_neg hj, if_neg hj]
theorem update_srt (v : List Hp) {n : Nat} : ∀ (L : List Nat) {l : List Hp}, Srt l n → Srt (update v L l) n
  | [], _, h => h
  | b :: L, l, h => by
    show Srt (Option.rec (hdel (update v L l) b) (fun bl => hset (update v L l) b bl) (hget v b)) n
    cases hget v b with
    | none => exact hdel_srt b (update_srt v L h)
    | some x => exact hset_srt b x (update_srt v L h)
theorem update_get (v : List Hp) {n : Nat} : ∀ (L : List Nat) {l : List Hp}, Srt l n → ∀ b, hget (update v L l) b = if b ∈ L then (match hget v b with | some x => (hget l b).map fun _ => x | none => none) else hget l b
  | [], _, _, _ => by simp [update]
  | c :: L, l, h, b => by
    have e : update v (c :: L) l = Option.rec (hdel (update v L l) c) (fun bl => hset (update v L l) c bl) (hget v c) := rfl
    rw [e]
    have hs := update_srt v L h
    have ih := update_get v L h b
    cases hc : hget v c with
    | none =>
      show hget (hdel (update v L l) c) b = _
      rw [hdel_eq c hs b, ih]
      by_cases hb : b = c
      · subst hb; rw [if_pos rfl, if_pos List.mem_cons_self, hc]
      · rw [if_neg hb]
        by_cases hm : b ∈ L
        · rw [if_pos hm, if_pos (List.mem_cons_of_mem _ hm)]
        · rw [if_neg hm, if_neg (by simp [hb, hm])]
    | some x =>
      show hget (hset (update v L l) c x) b = _
      rw [hset_get]
      by_cases hb : b = c
      · subst hb
        rw [if_pos rfl, if_pos List.mem_cons_self, ih, hc]
        by_cases hm : b ∈ L
        · rw [if_pos hm]; cases hget l b <;> rfl
        · rw [if_neg hm]
      · rw [if_neg hb, ih]
        by_cases hm : b ∈ L
        · rw [if_pos hm, if_pos (List.mem_cons_of_mem _ hm)]
        · rw [if_neg hm, if_neg (by simp [hb, hm])]
/-- What an operation did. -/
structure Ef where
  dst : Option Tmp
  val : SV
  lo : Nat
  hi : Nat
  wr : List Nat
  h1 : List Hp
  view : List Hp
noncomputable def Ef.app (e : Ef) (f : Nat → Option B) (b : Nat) : Option B := if e.lo ≤ b then hget e.h1 b else if b ∈ e.wr then (match hget e.h1 b with | some x => (f b).map fun _ => x | none => none) else f b
theorem app_get (e : Ef) {H : List Hp} (hs : Srt e.h1 e.hi) (hH : Srt H e.lo) (b : Nat) : hget (newer e.lo e.h1 ++ update e.h1 e.wr H) b = e.app (hget H) b := by
  rw [hget_append, newer_srt hs, update_get e.h1 e.wr hH]
  unfold Ef.app
  by_cases hb : e.lo ≤ b
  · rw [if_pos hb, if_pos hb]
    have hn : hget H b = none := by
      cases hx : hget H b with
      | none => rfl
      | some y => have := Srt.lt hH hx; omega
    rw [hn]
    cases hget e.h1 b <;> simp
  · rw [if_neg hb, if_neg hb]
    rfl
theorem newer_rest {l : List Hp} {lo n : Nat} (h : Srt l n) : Srt (newer lo l) n := by
  induction l generalizing n with
  | nil => trivial
  | cons a l ih =>
    obtain ⟨i, x⟩ := a
    show Srt (ifB (Nat.ble lo i) (⟨i, x⟩ :: newer lo l) []) n
    rcases ble_dec lo i with ⟨e, hle⟩ | ⟨e, hlt⟩
    · rw [e]; exact ⟨h.1, ih h.2⟩
    · rw [e]; trivial
theorem srt_append : ∀ {l m : List Hp} {lo n : Nat}, Srt l n → Srt m lo → lo ≤ n → (∀ h ∈ l, lo ≤ h.id) → Srt (l ++ m) n
  | [], _, _, _, _, hm, hle, _ => hm.mono hle
  | a :: _, _, _, _, hl, hm, _, hi => ⟨hl.1, srt_append hl.2 hm (hi a List.mem_cons_self) fun h hh => hi h (List.mem_cons_of_mem _ hh)⟩
theorem newer_ids {l : List Hp} {lo : Nat} : ∀ h ∈ newer lo l, lo ≤ h.id := by
  induction l with
  | nil => intro h hh; cases hh
  | cons a l ih =>
    obtain ⟨i, x⟩ := a
    intro h hh
    replace hh : h ∈ ifB (Nat.ble lo i) (⟨i, x⟩ :: newer lo l) [] := hh
    rcases ble_dec lo i with ⟨e, hle⟩ | ⟨e, hlt⟩
    · rw [e, ifB_true] at hh
      rcases List.mem_cons.1 hh with rfl | hh
      · exact hle
      · exact ih h hh
    · rw [e] at hh; cases hh
theorem app_srt (e : Ef) {H : List Hp} (hs : Srt e.h1 e.hi) (hH : Srt H e.lo) (hle : e.lo ≤ e.hi) : Srt (newer e.lo e.h1 ++ update e.h1 e.wr H) e.hi :=
  srt_append (newer_rest hs) (update_srt _ _ hH) hle newer_ids
theorem hget_mem {l : List Hp} {b : Nat} {x : B} (h : hget l b = some x) : (⟨b, x⟩ : Hp) ∈ l := by
  induction l with
  | nil => cases h
  | cons a l ih =>
    obtain ⟨i, y⟩ := a
    rw [hget_cons] at h
    split at h
    · rename_i e; subst e; cases h; exact List.mem_cons_self
    · exact List.mem_cons_of_mem _ (ih h)

/-! ### What those that were done make of memory, of the slots -/
noncomputable def heapAt (E : Nat → Ef) (D : Nat → Bool) (f : Nat → Option B) : Nat → Nat → Option B
  | 0 => f
  | j + 1 => if D j = true then (E j).app (heapAt E D f j) else heapAt E D f j
noncomputable def slotAt (E : Nat → Ef) (D : Nat → Bool) (g : Nat → Option SV) : Nat → Nat → Option SV
  | 0 => g
  | j + 1 => fun k => if D j = true ∧ (E j).dst = some k then some (E j).val else slotAt E D g j k
theorem heapAt_congr {E : Nat → Ef} {D D' : Nat → Bool} {f : Nat → Option B} : ∀ {j : Nat}, (∀ k, k < j → D k = D' k) → heapAt E D f j = heapAt E D' f j
  | 0, _ => rfl
  | j + 1, h => by
    unfold heapAt
    rw [h j (Nat.lt_succ_self _), heapAt_congr fun k hk => h k (by omega)]
theorem slotAt_congr {E : Nat → Ef} {D D' : Nat → Bool} {g : Nat → Option SV} : ∀ {j : Nat}, (∀ k, k < j → D k = D' k) → slotAt E D g j = slotAt E D' g j
  | 0, _ => rfl
  | j + 1, h => by
    unfold slotAt
    rw [h j (Nat.lt_succ_self _), slotAt_congr fun k hk => h k (by omega)]
def upd (D : Nat → Bool) (i : Nat) (j : Nat) : Bool := if j = i then true else D j
end Go.Ex

/- Regions whose order is open: one operation more, whichever was drawn. -/
namespace Go.Ex
open Go

/-- What the runner's pass over a region's operations found: S the states, E what each did. -/
structure Pass (P : Program) (call : Caller) (cx : Cx) (ops : Array Oper) (bef : Nat → Nat) (S : Nat → St) (E : Nat → Ef) : Prop where
  step : ∀ j o, ops[j]? = some o → (E j).dst = o.dst ∧ (E j).lo = (S j).n ∧ (E j).hi = (S (j + 1)).n ∧ isDefer o.op = false ∧
    putSt cx o.dst (E j).val ⟨(S j).env, newer (E j).lo (E j).h1 ++ update (E j).h1 (E j).wr (S j).heap, (E j).hi, olds cx.base (E j).wr ++ (S j).log, (S j).defs⟩ = some (S (j + 1)) ∧
    (∀ b x, hget (E j).view b = some x → hget (S j).heap b = some x) ∧ (∀ n, Srt (S j).heap n → Srt (E j).view n) ∧
    ((wantedS ops o (S j).env = some false ∧ (E j).val = .v undef ∧ (E j).hi = (E j).lo ∧ (E j).wr = [] ∧ (E j).h1 = [] ∧ (E j).view = []) ∨
     (wantedS ops o (S j).env = some true ∧ ∃ env' defs', exOp P call ⟨(E j).lo, cx.N⟩ o ⟨(S j).env, (E j).view, (E j).lo, [], (S j).defs⟩ = some ((E j).val, ⟨env', (E j).h1, (E j).hi, (E j).wr, defs'⟩)))
  free : ∀ k j ok oj, k < j → ops[k]? = some ok → ops[j]? = some oj → hasBit (bef j) k = false → ok.apart ops oj = true ∧
    (∀ b x, hget (E j).view b = some x → (b < (E k).lo ∨ (E k).hi ≤ b) ∧ b ∉ (E k).wr) ∧
    (∀ b ∈ (E j).wr, hget (E k).view b = none) ∧ Av (E k).lo (E k).hi (E j).val ∧
    (∀ b x, hget (newer (E j).lo (E j).h1) b = some x → ∀ c ∈ x.cells, Av (E k).lo (E k).hi c) ∧
    (∀ b x, b ∈ (E j).wr → hget (E j).h1 b = some x → ∀ c ∈ x.cells, Av (E k).lo (E k).hi c)
  sel : ∀ (j : Nat) (o : Oper) (cs : Array SelectCase) (b : Bool), ops[j]? = some o → o.op ≠ .select cs b
/-- What an operation that was run says of what it did. -/
structure Fact (e : Ef) : Prop where
  le : e.lo ≤ e.hi
  srt : Srt e.h1 e.hi
  sc : ∀ b x, hget e.h1 b = some x → ∀ c ∈ x.cells, Sc e.hi c
  val : Sc e.hi e.val
  nrev : ∀ b, b < e.lo → ∀ y, hget e.h1 b = some y → ∃ x, hget e.view b = some x
  wr : ∀ b ∈ e.wr, b < e.lo ∧ ∃ x, hget e.view b = some x
/-- The state at the region's beginning. -/
structure Start (ρ : Va) (s : St) (N : Nat) : Prop where
  srt : Srt s.heap s.n
  hsc : ∀ b x, hget s.heap b = some x → ∀ c ∈ x.cells, Sc s.n c
  ssc : ∀ k x, s.env.get k = some x → Sc s.n x
  slt : ∀ k x, s.env.get k = some x → k < N
  glob : ∀ g, g < 4096 → ρ.blk g = g
  big : 4096 ≤ s.n
/-- Operation i may come next, of those below M those in D being done. -/
structure Rdy (M : Nat) (bef : Nat → Nat) (D : Nat → Bool) (i : Nat) : Prop where
  un : D i = false
  lt : i ≤ M
  don : ∀ k, D k = true → k < M
  bf : ∀ k, k < i → D k = false → hasBit (bef i) k = false
  af : ∀ k, D k = true → i < k → hasBit (bef k) i = false
/-- A frame and a world behind those in D. -/
structure Inv (ops : Array Oper) (S : Nat → St) (E : Nat → Ef) (N : Nat) (ρ0 : Va) (w0 : World) (D : Nat → Bool) (ρ : Va) (a : Act) (w : World) : Prop where
  slot : ∀ k x, slotAt E D (S 0).env.get ops.size k = some x → a.tmps[k]? = some (x.conc ρ)
  bk : ∀ b x, heapAt E D (hget (S 0).heap) ops.size b = some x → BkOK ρ w b x
  inj : ∀ b b' x y, heapAt E D (hget (S 0).heap) ops.size b = some x → heapAt E D (hget (S 0).heap) ops.size b' = some y → ρ.blk b = ρ.blk b' → b = b'
  agr : ∀ b, (∀ j, D j = true → b < (E j).lo ∨ (E j).hi ≤ b) → ρ.blk b = ρ0.blk b ∧ ρ.cap b = ρ0.cap b
  size : w0.heap.size ≤ w.heap.size
  frame : ∀ r, r < w0.heap.size → (∀ j b, D j = true → b ∈ (E j).wr → b < (S 0).n → ρ0.blk b ≠ r) → w.heap[r]? = w0.heap[r]?
  new : ∀ b, (S 0).n ≤ b → ∀ y, heapAt E D (hget (S 0).heap) ops.size b = some y → w0.heap.size ≤ ρ.blk b ∨ ∃ j b', D j = true ∧ b' ∈ (E j).wr ∧ b' < (S 0).n ∧ ρ0.blk b' = ρ.blk b
  defs : DefOK ρ (S 0).n (S 0).defs a.defers
  tmps : a.tmps.size = N
  side : Side w0 w

theorem putSt_eq {cx : Cx} {d : Option Tmp} {v : SV} {s s' : St} (h : putSt cx d v s = some s') : s'.heap = s.heap ∧ s'.n = s.n ∧ s'.log = s.log ∧ s'.defs = s.defs ∧
    (∀ k, d = some k → k < cx.N) ∧ ∀ k x, s'.env.get k = some x → (d = some k ∧ x = v) ∨ (d ≠ some k ∧ s.env.get k = some x) := by
  cases d with
  | none => cases h; exact ⟨rfl, rfl, rfl, rfl, fun k h => (by cases h), fun k x h => .inr ⟨by simp, h⟩⟩
  | some j =>
    obtain ⟨env, heap, n, log, defs⟩ := s
    obtain ⟨h1, h⟩ := guardO_eq.1 (show guardO (Nat.ble (Nat.succ j) cx.N) ((env.put j v).strict fun env => some (⟨env, heap, n, log, defs⟩ : St)) = some s' from h)
    rw [T.strict_eq] at h
    cases h
    refine ⟨rfl, rfl, rfl, rfl, fun k hk => by cases hk; exact Nat.le_of_ble_eq_true h1, fun k x hk => ?_⟩
    by_cases hjk : j = k
    · subst hjk
      rw [T.put_eq] at hk
      cases hk
      exact .inl ⟨rfl, rfl⟩
    · rcases T.put_get hk with ⟨rfl, -⟩ | hk
      · exact absurd rfl hjk
      · exact .inr ⟨by simpa using hjk, hk⟩
theorem app_congr {e : Ef} {f f' : Nat → Option B} {b : Nat} (h : f b = f' b) : e.app f b = e.app f' b := by unfold Ef.app; rw [h]
section
variable {P : Program} {call : Caller} {cx : Cx} {ops : Array Oper} {bef : Nat → Nat} {S : Nat → St} {E : Nat → Ef} {M N i : Nat} {D : Nat → Bool} {ρ0 ρ : Va} {w0 w : World} {a : Act}

theorem Pass.bounds (pa : Pass P call cx ops bef S E) {j : Nat} (hj : j < ops.size) : (E j).lo = (S j).n ∧ (E j).hi = (S (j + 1)).n :=
  ⟨(pa.step j _ (Array.getElem?_eq_getElem hj)).2.1, (pa.step j _ (Array.getElem?_eq_getElem hj)).2.2.1⟩
theorem n_le (pa : Pass P call cx ops bef S E) (hM : M ≤ ops.size) (hF : ∀ j, j < M → Fact (E j)) : ∀ {k j : Nat}, j ≤ k → k ≤ M → (S j).n ≤ (S k).n
  | 0, j, h, _ => by have : j = 0 := by omega
                     subst this; exact Nat.le_refl _
  | k + 1, j, h, hk => by
    by_cases hj : j = k + 1
    · subst hj; exact Nat.le_refl _
    · have h1 := n_le pa hM hF (show j ≤ k by omega) (by omega)
      have h2 := (hF k (by omega)).le
      obtain ⟨e1, e2⟩ := pa.bounds (show k < ops.size by omega)
      omega
theorem heapAt_lt (pa : Pass P call cx ops bef S E) (hM : M ≤ ops.size) (hF : ∀ j, j < M → Fact (E j)) (z : Start ρ0 (S 0) N) {D : Nat → Bool} : ∀ {j : Nat}, j ≤ M → ∀ {b x}, heapAt E D (hget (S 0).heap) j b = some x → b < (S j).n
  | 0, _, b, x, h => z.srt.lt h
  | j + 1, hj, b, x, h => by
    have hle := n_le pa hM hF (show j ≤ j + 1 by omega) hj
    obtain ⟨e1, e2⟩ := pa.bounds (show j < ops.size by omega)
    unfold heapAt at h
    split at h
    · unfold Ef.app at h
      split at h
      · have := (hF j (by omega)).srt.lt h; omega
      · rename_i hlo; omega
    · exact Nat.lt_of_lt_of_le (heapAt_lt pa hM hF z (by omega) h) hle
theorem heap_S (pa : Pass P call cx ops bef S E) (hM : M ≤ ops.size) (hF : ∀ j, j < M → Fact (E j)) (z : Start ρ0 (S 0) N) : ∀ {j : Nat}, j ≤ M → Srt (S j).heap (S j).n ∧ ∀ b, hget (S j).heap b = heapAt E (fun _ => true) (hget (S 0).heap) j b
  | 0, _ => ⟨z.srt, fun _ => rfl⟩
  | j + 1, hj => by
    obtain ⟨h1, h2⟩ := heap_S pa hM hF z (show j ≤ M by omega)
    obtain ⟨e0, e1, e2, -, hput, -⟩ := pa.step j _ (Array.getElem?_eq_getElem (show j < ops.size by omega))
    obtain ⟨p1, p2, -⟩ := putSt_eq hput
    have f := hF j (by omega)
    rw [← e1] at h1
    rw [p1, p2]
    refine ⟨app_srt (E j) f.srt h1 f.le, fun b => ?_⟩
    rw [app_get (E j) f.srt h1]
    unfold heapAt
    rw [if_pos rfl]
    exact app_congr (h2 b)
theorem slot_S (pa : Pass P call cx ops bef S E) : ∀ {j : Nat}, j ≤ ops.size → ∀ {k x}, (S j).env.get k = some x → slotAt E (fun _ => true) (S 0).env.get j k = some x
  | 0, _, _, _, h => h
  | j + 1, hj, k, x, h => by
    obtain ⟨e0, e1, e2, -, hput, -⟩ := pa.step j _ (Array.getElem?_eq_getElem (show j < ops.size by omega))
    obtain ⟨-, -, -, -, -, p⟩ := putSt_eq hput
    unfold slotAt
    rcases p k x h with ⟨h1, rfl⟩ | ⟨h1, h2⟩
    · rw [if_pos ⟨rfl, e0.trans h1⟩]
    · rw [if_neg (by rw [e0]; exact fun hh => h1 hh.2)]
      exact slot_S pa (by omega) h2
theorem slot_lt (pa : Pass P call cx ops bef S E) (z : Start ρ0 (S 0) N) (hN : cx.N ≤ N) : ∀ {j : Nat}, j ≤ ops.size → ∀ {k x}, (S j).env.get k = some x → k < N
  | 0, _, _, _, h => z.slt _ _ h
  | j + 1, hj, k, x, h => by
    obtain ⟨e0, e1, e2, -, hput, -⟩ := pa.step j _ (Array.getElem?_eq_getElem (show j < ops.size by omega))
    obtain ⟨-, -, -, -, q, p⟩ := putSt_eq hput
    rcases p k x h with ⟨h1, rfl⟩ | ⟨h1, h2⟩
    · exact Nat.lt_of_lt_of_le (q k h1) hN
    · exact slot_lt pa z hN (by omega) h2
theorem slot_sc (pa : Pass P call cx ops bef S E) (hM : M ≤ ops.size) (hF : ∀ j, j < M → Fact (E j)) (z : Start ρ0 (S 0) N) : ∀ {j : Nat}, j ≤ M → ∀ {k x}, slotAt E (fun _ => true) (S 0).env.get j k = some x → Sc (S j).n x
  | 0, _, _, _, h => z.ssc _ _ h
  | j + 1, hj, k, x, h => by
    obtain ⟨e1, e2⟩ := pa.bounds (show j < ops.size by omega)
    unfold slotAt at h
    split at h
    · cases h
      have := (hF j (by omega)).val
      rwa [e2] at this
    · exact (slot_sc pa hM hF z (by omega) h).mono (n_le pa hM hF (show j ≤ j + 1 by omega) hj)
theorem heap_sc (pa : Pass P call cx ops bef S E) (hM : M ≤ ops.size) (hF : ∀ j, j < M → Fact (E j)) (z : Start ρ0 (S 0) N) : ∀ {j : Nat}, j ≤ M → ∀ {b x}, heapAt E (fun _ => true) (hget (S 0).heap) j b = some x → ∀ c ∈ x.cells, Sc (S j).n c
  | 0, _, _, _, h => z.hsc _ _ h
  | j + 1, hj, b, x, h => by
    obtain ⟨e1, e2⟩ := pa.bounds (show j < ops.size by omega)
    have f := hF j (by omega)
    have hle := n_le pa hM hF (show j ≤ j + 1 by omega) hj
    unfold heapAt at h
    rw [if_pos rfl] at h
    unfold Ef.app at h
    split at h
    · rw [← e2]; exact f.sc b x h
    · split at h
      · split at h
        · rename_i y hy
          obtain ⟨u, -, rfl⟩ := Option.map_eq_some_iff.1 h
          rw [← e2]; exact f.sc b _ hy
        · cases h
      · exact fun c hc => (heap_sc pa hM hF z (by omega) h c hc).mono hle

/-- What operation i was shown is still so. -/
theorem view_at (pa : Pass P call cx ops bef S E) (hM : M ≤ ops.size) (hF : ∀ j, j < M → Fact (E j)) (z : Start ρ0 (S 0) N) (r : Rdy M bef D i) (hi : i < ops.size) {b : Nat} {x : B} (hv : hget (E i).view b = some x) :
    ∀ j, i ≤ j → j ≤ ops.size → heapAt E D (hget (S 0).heap) j b = some x := by
  obtain ⟨e0, e1, e2, -, -, hsub, -⟩ := pa.step i _ (Array.getElem?_eq_getElem hi)
  have hS := hsub b x hv
  rw [(heap_S pa hM hF z r.lt).2 b] at hS
  have hb : b < (S i).n := heapAt_lt pa hM hF z r.lt hS
  have c1 : ∀ j, j ≤ i → heapAt E D (hget (S 0).heap) j b = heapAt E (fun _ => true) (hget (S 0).heap) j b := by
    intro j
    induction j with
    | zero => intro _; rfl
    | succ j ih =>
      intro hj
      have ih := ih (by omega)
      have hjM : j < M := by have := r.lt; omega
      unfold heapAt
      rw [if_pos (show (fun _ => true) j = true from rfl)]
      cases hDj : D j with
      | true => rw [if_pos rfl]; exact app_congr ih
      | false =>
        rw [if_neg (by simp), ih]
        obtain ⟨-, hv1, -⟩ := pa.free j i _ _ (by omega) (Array.getElem?_eq_getElem (show j < ops.size by omega)) (Array.getElem?_eq_getElem hi) (r.bf j (by omega) hDj)
        obtain ⟨h1, h2⟩ := hv1 b x hv
        obtain ⟨q1, q2⟩ := pa.bounds (show j < ops.size by omega)
        unfold Ef.app
        by_cases hlo : (E j).lo ≤ b
        · rw [if_pos hlo]
          have n1 : heapAt E (fun _ => true) (hget (S 0).heap) j b = none := by
            cases hx : heapAt E (fun _ => true) (hget (S 0).heap) j b with
            | none => rfl
            | some y => have := heapAt_lt pa hM hF z (by omega) hx; omega
          have n2 : hget (E j).h1 b = none := by
            cases hx : hget (E j).h1 b with
            | none => rfl
            | some y => have := (hF j hjM).srt.lt hx; omega
          rw [n1, n2]
        · rw [if_neg hlo, if_neg h2]
  intro j
  induction j with
  | zero =>
    intro h0 _
    have : i = 0 := by omega
    subst this
    rw [c1 0 (Nat.le_refl _)]; exact hS
  | succ j ih =>
    intro hij hj
    by_cases he : i = j + 1
    · rw [← he, c1 i (Nat.le_refl _)]; exact hS
    · have ih := ih (by omega) (by omega)
      unfold heapAt
      cases hDj : D j with
      | false => rw [if_neg (by simp)]; exact ih
      | true =>
        rw [if_pos rfl]
        have hne : i ≠ j := fun h => by subst h; rw [r.un] at hDj; cases hDj
        have hjM := r.don j hDj
        obtain ⟨-, -, h3, -⟩ := pa.free i j _ _ (by omega) (Array.getElem?_eq_getElem hi) (Array.getElem?_eq_getElem (show j < ops.size by omega)) (r.af j hDj (by omega))
        obtain ⟨q1, q2⟩ := pa.bounds (show j < ops.size by omega)
        have hle := n_le pa hM hF (show i ≤ j by omega) (by omega)
        unfold Ef.app
        rw [if_neg (by omega), if_neg (fun hm => by have := h3 b hm; rw [hv] at this; cases this)]
        exact ih
/-- Memory once operation i is done too. -/
theorem heap_upd (pa : Pass P call cx ops bef S E) (hM : M ≤ ops.size) (hF : ∀ j, j < M → Fact (E j)) (z : Start ρ0 (S 0) N) (r : Rdy M bef D i) (hi : i < ops.size) (fi : Fact (E i)) (b : Nat) :
    ∀ j, i + 1 ≤ j → j ≤ ops.size → heapAt E (upd D i) (hget (S 0).heap) j b = if (E i).lo ≤ b ∧ b < (E i).hi then hget (E i).h1 b else if b ∈ (E i).wr then hget (E i).h1 b else heapAt E D (hget (S 0).heap) j b := by
  obtain ⟨q1, q2⟩ := pa.bounds hi
  intro j
  induction j with
  | zero => intro h _; omega
  | succ j ih =>
    intro hij hj
    by_cases he : i = j
    · subst he
      have c := heapAt_congr (E := E) (D := upd D i) (D' := D) (f := hget (S 0).heap) (j := i) fun k hk => if_neg (by omega)
      unfold heapAt
      rw [if_pos (show upd D i i = true from if_pos rfl), c, r.un, if_neg (by simp : ¬ false = true)]
      unfold Ef.app
      by_cases hlo : (E i).lo ≤ b
      · rw [if_pos hlo]
        by_cases hhi : b < (E i).hi
        · rw [if_pos ⟨hlo, hhi⟩]
        · rw [if_neg (show ¬ ((E i).lo ≤ b ∧ b < (E i).hi) by omega), if_neg (fun hm => by have := (fi.wr b hm).1; omega)]
          have n1 : heapAt E D (hget (S 0).heap) i b = none := by
            cases hx : heapAt E D (hget (S 0).heap) i b with
            | none => rfl
            | some y => have := heapAt_lt pa hM hF z r.lt hx; have := fi.le; omega
          have n2 : hget (E i).h1 b = none := by
            cases hx : hget (E i).h1 b with
            | none => rfl
            | some y => have := fi.srt.lt hx; omega
          rw [n1, n2]
      · rw [if_neg hlo, if_neg (show ¬ ((E i).lo ≤ b ∧ b < (E i).hi) by omega)]
        by_cases hm : b ∈ (E i).wr
        · rw [if_pos hm, if_pos hm]
          obtain ⟨-, x, hx⟩ := fi.wr b hm
          rw [view_at pa hM hF z r hi hx i (Nat.le_refl _) (by omega)]
          cases hget (E i).h1 b <;> rfl
        · rw [if_neg hm, if_neg hm]
    · have ih := ih (by omega) (by omega)
      unfold heapAt
      rw [show upd D i j = D j from if_neg (by omega)]
      cases hDj : D j with
      | false => exact ih
      | true =>
        show (E j).app (heapAt E (upd D i) (hget (S 0).heap) j) b = if (E i).lo ≤ b ∧ b < (E i).hi then hget (E i).h1 b else if b ∈ (E i).wr then hget (E i).h1 b else (E j).app (heapAt E D (hget (S 0).heap) j) b
        have hjM := r.don j hDj
        obtain ⟨p1, p2⟩ := pa.bounds (show j < ops.size by omega)
        obtain ⟨-, h2, -⟩ := pa.free i j _ _ (by omega) (Array.getElem?_eq_getElem hi) (Array.getElem?_eq_getElem (show j < ops.size by omega)) (r.af j hDj (by omega))
        have hle : (S (i + 1)).n ≤ (S j).n := n_le pa hM hF (by omega) (by omega)
        have hfl := fi.le
        unfold Ef.app
        by_cases hlo : (E j).lo ≤ b
        · have hn : b ∉ (E i).wr := fun hm => by have := (fi.wr b hm).1; omega
          rw [if_pos hlo, if_neg (show ¬ ((E i).lo ≤ b ∧ b < (E i).hi) by omega), if_neg hn, if_pos hlo]
        · rw [if_neg hlo, if_neg hlo]
          by_cases hm : b ∈ (E j).wr
          · obtain ⟨-, x, hx⟩ := (hF j hjM).wr b hm
            obtain ⟨g1, g2⟩ := h2 b x hx
            have hn : ¬ ((E i).lo ≤ b ∧ b < (E i).hi) := by omega
            rw [if_pos hm, if_pos hm, if_neg hn, if_neg g2]
            rw [if_neg hn, if_neg g2] at ih
            rw [ih]
          · rw [if_neg hm, if_neg hm]; exact ih
/-- What operation i looks at is there. -/
theorem look_at (pa : Pass P call cx ops bef S E) (r : Rdy M bef D i) (hi : i < ops.size) {k : Nat} (hk : k ∈ ops[i].looksAt ops) {x : SV} (h : (S i).env.get k = some x) : slotAt E D (S 0).env.get ops.size k = some x := by
  have hS := slot_S pa (Nat.le_of_lt hi) h
  have c1 : ∀ j, j ≤ i → slotAt E D (S 0).env.get j k = slotAt E (fun _ => true) (S 0).env.get j k := by
    intro j
    induction j with
    | zero => intro _; rfl
    | succ j ih =>
      intro hj
      have ih := ih (by omega)
      obtain ⟨e0, -⟩ := pa.step j _ (Array.getElem?_eq_getElem (show j < ops.size by omega))
      unfold slotAt
      cases hDj : D j with
      | true => simp only [ih]
      | false =>
        obtain ⟨h1, -⟩ := pa.free j i _ _ (by omega) (Array.getElem?_eq_getElem (show j < ops.size by omega)) (Array.getElem?_eq_getElem hi) (r.bf j (by omega) hDj)
        have := (Oper.apart_spec h1).1 k
        rw [if_neg (by simp), if_neg (by rw [e0]; exact fun hh => this hh.2 hk)]
        exact ih
  have c2 : ∀ j, i ≤ j → j ≤ ops.size → slotAt E D (S 0).env.get j k = some x := by
    intro j
    induction j with
    | zero =>
      intro h0 _
      have : i = 0 := by omega
      subst this
      rw [c1 0 (Nat.le_refl _)]; exact hS
    | succ j ih =>
      intro hij hj
      by_cases he : i = j + 1
      · rw [← he, c1 i (Nat.le_refl _)]; exact hS
      · have ih := ih (by omega) (by omega)
        obtain ⟨e0, -⟩ := pa.step j _ (Array.getElem?_eq_getElem (show j < ops.size by omega))
        unfold slotAt
        rw [if_neg]
        · exact ih
        · rintro ⟨hDj, hd⟩
          have hne : i ≠ j := fun h => by subst h; rw [r.un] at hDj; cases hDj
          obtain ⟨h1, -⟩ := pa.free i j _ _ (by omega) (Array.getElem?_eq_getElem hi) (Array.getElem?_eq_getElem (show j < ops.size by omega)) (r.af j hDj (by omega))
          exact (Oper.apart_spec h1).2.2 k (by rw [← e0]; exact hd) hk
  exact c2 ops.size (by omega) (Nat.le_refl _)
theorem slot_upd (pa : Pass P call cx ops bef S E) (r : Rdy M bef D i) (hi : i < ops.size) (k : Nat) :
    ∀ j, i + 1 ≤ j → j ≤ ops.size → slotAt E (upd D i) (S 0).env.get j k = if (E i).dst = some k then some (E i).val else slotAt E D (S 0).env.get j k := by
  intro j
  induction j with
  | zero => intro h _; omega
  | succ j ih =>
    intro hij hj
    by_cases he : i = j
    · subst he
      have c := slotAt_congr (E := E) (D := upd D i) (D' := D) (g := (S 0).env.get) (j := i) fun k hk => if_neg (by omega)
      unfold slotAt
      rw [c, show upd D i i = true from if_pos rfl, r.un]
      simp
    · have ih := ih (by omega) (by omega)
      unfold slotAt
      rw [show upd D i j = D j from if_neg (by omega), ih]
      by_cases hc : D j = true ∧ (E j).dst = some k
      · rw [if_pos hc, if_pos hc]
        obtain ⟨hDj, hd⟩ := hc
        obtain ⟨e0, -⟩ := pa.step j _ (Array.getElem?_eq_getElem (show j < ops.size by omega))
        obtain ⟨e0', -⟩ := pa.step i _ (Array.getElem?_eq_getElem hi)
        obtain ⟨h1, -⟩ := pa.free i j _ _ (by omega) (Array.getElem?_eq_getElem hi) (Array.getElem?_eq_getElem (show j < ops.size by omega)) (r.af j hDj (by omega))
        rw [if_neg]
        intro hd'
        exact (Oper.apart_spec h1).2.1 k (by rw [← e0']; exact hd') (by rw [← e0]; exact hd)
      · rw [if_neg hc, if_neg hc]
theorem slot_av (pa : Pass P call cx ops bef S E) (hM : M ≤ ops.size) (hF : ∀ j, j < M → Fact (E j)) (z : Start ρ0 (S 0) N) (r : Rdy M bef D i) (hi : i < ops.size) : ∀ {j : Nat}, j ≤ ops.size → ∀ {k x}, slotAt E D (S 0).env.get j k = some x → Av (E i).lo (E i).hi x
  | 0, _, _, _, h => (z.ssc _ _ h).av (by rw [(pa.bounds hi).1]; exact n_le pa hM hF (Nat.zero_le _) r.lt)
  | j + 1, hj, k, x, h => by
    unfold slotAt at h
    split at h
    · rename_i hc
      cases h
      have hjM := r.don j hc.1
      have hne : i ≠ j := fun h => by subst h; rw [r.un] at hc; cases hc.1
      rcases Nat.lt_or_gt_of_ne hne with hlt | hgt
      · obtain ⟨-, -, -, h4, -⟩ := pa.free i j _ _ hlt (Array.getElem?_eq_getElem hi) (Array.getElem?_eq_getElem (show j < ops.size by omega)) (r.af j hc.1 hlt)
        exact h4
      · refine (hF j hjM).val.av ?_
        rw [(pa.bounds hi).1, (pa.bounds (show j < ops.size by omega)).2]
        exact n_le pa hM hF hgt r.lt
    · exact slot_av pa hM hF z r hi (by omega) h
theorem heap_av (pa : Pass P call cx ops bef S E) (hM : M ≤ ops.size) (hF : ∀ j, j < M → Fact (E j)) (z : Start ρ0 (S 0) N) (r : Rdy M bef D i) (hi : i < ops.size) : ∀ {j : Nat}, j ≤ ops.size → ∀ {b x}, heapAt E D (hget (S 0).heap) j b = some x → ∀ c ∈ x.cells, Av (E i).lo (E i).hi c
  | 0, _, _, _, h => fun c hc => (z.hsc _ _ h c hc).av (by rw [(pa.bounds hi).1]; exact n_le pa hM hF (Nat.zero_le _) r.lt)
  | j + 1, hj, b, x, h => by
    unfold heapAt at h
    split at h
    · rename_i hDj
      have hjM := r.don j hDj
      have fj := hF j hjM
      have hne : i ≠ j := fun h => by subst h; rw [r.un] at hDj; cases hDj
      have old : ∀ y, hget (E j).h1 b = some y → i > j → ∀ c ∈ y.cells, Av (E i).lo (E i).hi c := fun y hy hgt c hc => by
        refine (fj.sc b y hy c hc).av ?_
        rw [(pa.bounds hi).1, (pa.bounds (show j < ops.size by omega)).2]
        exact n_le pa hM hF hgt r.lt
      unfold Ef.app at h
      rcases Nat.lt_or_gt_of_ne hne with hlt | hgt
      · obtain ⟨-, -, -, -, h5, h6⟩ := pa.free i j _ _ hlt (Array.getElem?_eq_getElem hi) (Array.getElem?_eq_getElem (show j < ops.size by omega)) (r.af j hDj hlt)
        split at h
        · rename_i hlo
          exact h5 b x (by rw [newer_srt fj.srt, if_pos hlo]; exact h)
        · split at h
          · rename_i hm
            split at h
            · rename_i y hy
              obtain ⟨u, -, rfl⟩ := Option.map_eq_some_iff.1 h
              exact h6 b _ hm hy
            · cases h
          · exact heap_av pa hM hF z r hi (by omega) h
      · split at h
        · exact old x h hgt
        · split at h
          · split at h
            · rename_i y hy
              obtain ⟨u, -, rfl⟩ := Option.map_eq_some_iff.1 h
              exact old _ hy hgt
            · cases h
          · exact heap_av pa hM hF z r hi (by omega) h
    · exact heap_av pa hM hF z r hi (by omega) h
end
end Go.Ex

/- Regions whose order is open: whatever order is drawn, what the runner found in the text's order comes about. -/
namespace Go.Ex
open Go
section
variable {P : Program} {call : Caller} {cx : Cx} {ops : Array Oper} {bef : Nat → Nat} {S : Nat → St} {E : Nat → Ef} {M N i : Nat} {D : Nat → Bool} {ρ0 ρ : Va} {w0 w : World} {a : Act}

theorem BkOK.keep {ρ ρ' : Va} {w w' : World} {b : Nat} {bl : B} (h : BkOK ρ w b bl) (h1 : ρ'.blk b = ρ.blk b) (h2 : ρ'.cap b = ρ.cap b) (hs : ∀ c ∈ bl.cells, c.conc ρ' = c.conc ρ) (hw : w'.heap[ρ.blk b]? = w.heap[ρ.blk b]?) : BkOK ρ' w' b bl := by
  obtain ⟨arr, e, fz, g1, g2, g3, g4⟩ := h
  refine ⟨arr, e, fz, by rw [h1, hw]; exact g1, fun j x hx => ?_, g3, by rw [h2]; exact g4⟩
  rw [hs x (List.mem_of_getElem? hx)]
  exact g2 j x hx
theorem Act.put_size (a : Act) (d : Option Tmp) (v : Value) : (a.put d v).tmps.size = a.tmps.size := by cases d <;> simp [Act.put]
theorem Act.put_defs (a : Act) (d : Option Tmp) (v : Value) : (a.put d v).defers = a.defers := by cases d <;> rfl
theorem agr0 (pa : Pass P call cx ops bef S E) (hM : M ≤ ops.size) (hF : ∀ j, j < M → Fact (E j)) (hdon : ∀ k, D k = true → k < M) (inv : Inv ops S E N ρ0 w0 D ρ a w) : Agr (S 0).n ρ0 ρ := fun b hb => inv.agr b fun j hj => .inl (by
  have := hdon j hj
  rw [(pa.bounds (show j < ops.size by omega)).1]
  exact Nat.lt_of_lt_of_le hb (n_le pa hM hF (Nat.zero_le _) (by omega)))
theorem fact_of {e : Ef} {L : List Nat} {ρ' : Va} {w' : World} (x : Ext L ρ e.lo e.view w ρ' e.hi e.h1 w') (hwr : ∀ b, b ∈ e.wr ↔ b ∈ L ∧ b < e.lo) (hp : HpOK ρ' e.hi e.h1 w') (hv : Sc e.hi e.val) : Fact e where
  le := x.le
  srt := hp.srt
  sc := hp.sc
  val := hv
  nrev := x.nrev
  wr := fun b hb => ⟨((hwr b).1 hb).2, x.vis b ((hwr b).1 hb).1 ((hwr b).1 hb).2⟩
theorem inv_step (pa : Pass P call cx ops bef S E) (hM : M ≤ ops.size) (hF : ∀ j, j < M → Fact (E j)) (z : Start ρ0 (S 0) N) (hN : cx.N ≤ N) (r : Rdy M bef D i) (hi : i < ops.size) (inv : Inv ops S E N ρ0 w0 D ρ a w) {L : List Nat} {ρ' : Va} {w' : World}
    (e : Ext L ρ (E i).lo (E i).view w ρ' (E i).hi (E i).h1 w') (hwr : ∀ b, b ∈ (E i).wr ↔ b ∈ L ∧ b < (E i).lo) (hp : HpOK ρ' (E i).hi (E i).h1 w') (hv : Sc (E i).hi (E i).val) :
    Inv ops S E N ρ0 w0 (upd D i) ρ' (a.put ops[i].dst ((E i).val.conc ρ')) w' := by
  have fi := fact_of e hwr hp hv
  obtain ⟨b1, b2⟩ := pa.bounds hi
  obtain ⟨e0, -, -, -, hput, -⟩ := pa.step i _ (Array.getElem?_eq_getElem hi)
  have hup := fun b => heap_upd pa hM hF z r hi fi b ops.size hi (Nat.le_refl _)
  have hview : ∀ {b x}, hget (E i).view b = some x → heapAt E D (hget (S 0).heap) ops.size b = some x := fun h => view_at pa hM hF z r hi h ops.size (by omega) (Nat.le_refl _)
  have hn0 : (S 0).n ≤ (E i).lo := by rw [b1]; exact n_le pa hM hF (Nat.zero_le _) r.lt
  have a0 := agr0 pa hM hF r.don inv
  have hmem : ∀ j, D j = true → upd D i j = true := fun j hj => by
    by_cases h : j = i
    · subst h; exact if_pos rfl
    · exact (if_neg h).trans hj
  -- what is neither new nor written
  have rest : ∀ {b x}, heapAt E D (hget (S 0).heap) ops.size b = some x → ¬ ((E i).lo ≤ b ∧ b < (E i).hi) → b ∉ (E i).wr → BkOK ρ' w' b x := fun {b x} hx h1 h2 => by
    have hk := inv.bk b x hx
    have hag := e.agr b (by omega)
    refine hk.keep hag.1 hag.2 (fun c hc => heap_av pa hM hF z r hi (Nat.le_refl _) hx c hc ρ ρ' e.agr) (e.frame _ hk.lt fun b' hb' hlt heq => ?_)
    obtain ⟨y, hy⟩ := e.vis b' hb' hlt
    have := inv.inj b' b _ _ (hview hy) hx heq
    subst this
    exact h2 ((hwr b').2 ⟨hb', hlt⟩)
  have cases3 : ∀ {b x}, heapAt E (upd D i) (hget (S 0).heap) ops.size b = some x → (hget (E i).h1 b = some x ∧ ((E i).lo ≤ b ∨ (b < (E i).lo ∧ b ∈ (E i).wr))) ∨ (heapAt E D (hget (S 0).heap) ops.size b = some x ∧ ¬ ((E i).lo ≤ b ∧ b < (E i).hi) ∧ b ∉ (E i).wr) := fun {b x} hx => by
    rw [hup b] at hx
    split at hx
    · rename_i h; exact .inl ⟨hx, .inl h.1⟩
    · split at hx
      · rename_i h; exact .inl ⟨hx, .inr ⟨(fi.wr b h).1, h⟩⟩
      · rename_i h1 h2; exact .inr ⟨hx, h1, h2⟩
  -- an old name that is known behind the operation was known
  have back : ∀ {b x}, hget (E i).h1 b = some x → b < (E i).lo → ∃ y, heapAt E D (hget (S 0).heap) ops.size b = some y := fun h hb => let ⟨y, hy⟩ := e.nrev _ hb _ h; ⟨y, hview hy⟩
  have mixed : ∀ {b b' x y}, hget (E i).h1 b = some x → ((E i).lo ≤ b ∨ (b < (E i).lo ∧ b ∈ (E i).wr)) → heapAt E D (hget (S 0).heap) ops.size b' = some y → ¬ ((E i).lo ≤ b' ∧ b' < (E i).hi) → b' ∉ (E i).wr → ρ'.blk b = ρ'.blk b' → False := fun {b b' x y} hx h1 hy h2 h3 heq => by
    rw [(e.agr b' (by omega)).1] at heq
    rcases h1 with h1 | ⟨h1, h4⟩
    · rcases e.new b h1 x hx with h | ⟨c, hc, hlt, hce⟩
      · have := (inv.bk b' y hy).lt; omega
      · obtain ⟨u, hu⟩ := e.vis c hc hlt
        have := inv.inj c b' _ _ (hview hu) hy (hce.trans heq)
        subst this
        exact h3 ((hwr c).2 ⟨hc, hlt⟩)
    · obtain ⟨u, hu⟩ := back hx h1
      rw [(e.agr b (.inl h1)).1] at heq
      have := inv.inj b b' _ _ hu hy heq
      subst this
      exact h3 h4
  refine ⟨fun k x h => ?_, fun b x h => ?_, fun b b' x y hx hy heq => ?_, fun b hb => ?_, Nat.le_trans inv.size e.size, fun q hq hno => ?_, fun b hb y hy => ?_, ?_, (Act.put_size _ _ _).trans inv.tmps, inv.side.trans e.side⟩
  · rw [slot_upd pa r hi k ops.size hi (Nat.le_refl _)] at h
    split at h
    · rename_i hd
      cases h
      rw [e0] at hd
      have hk : k < a.tmps.size := by rw [inv.tmps]; exact Nat.lt_of_lt_of_le ((putSt_eq hput).2.2.2.2.1 k hd) hN
      rw [hd]
      simp [Act.put, hk]
    · rename_i hd
      rw [e0] at hd
      have h1 := inv.slot k x h
      rw [slot_av pa hM hF z r hi (Nat.le_refl _) h ρ ρ' e.agr]
      cases hdd : ops[i].dst with
      | none => exact h1
      | some d =>
        have hne : d ≠ k := fun h => hd (by rw [hdd, h])
        simp only [Act.put, Array.getElem?_setIfInBounds_ne hne]
        exact h1
  · rcases cases3 h with ⟨h1, -⟩ | ⟨h1, h2, h3⟩
    · exact hp.bk b x h1
    · exact rest h1 h2 h3
  · rcases cases3 hx with ⟨h1, h2⟩ | ⟨h1, h2, h3⟩ <;> rcases cases3 hy with ⟨g1, g2⟩ | ⟨g1, g2, g3⟩
    · exact hp.inj b b' x y h1 g1 heq
    · exact (mixed h1 h2 g1 g2 g3 heq).elim
    · exact (mixed g1 g2 h1 h2 h3 heq.symm).elim
    · refine inv.inj b b' x y h1 g1 ?_
      rw [← (e.agr b (by omega)).1, ← (e.agr b' (by omega)).1]
      exact heq
  · have h1 := hb i (if_pos rfl)
    have h2 := e.agr b h1
    have h3 := inv.agr b fun j hj => hb j (hmem j hj)
    exact ⟨h2.1.trans h3.1, h2.2.trans h3.2⟩
  · have hold := inv.frame q hq fun j b hj => hno j b (hmem j hj)
    refine (e.frame q (Nat.lt_of_lt_of_le hq inv.size) fun b hb hlt heq => ?_).trans hold
    have hbw := (hwr b).2 ⟨hb, hlt⟩
    by_cases h0 : b < (S 0).n
    · exact hno i b (if_pos rfl) hbw h0 ((a0 b h0).1.symm.trans heq)
    · obtain ⟨y, hy⟩ := e.vis b hb hlt
      rcases inv.new b (by omega) y (hview hy) with h | ⟨j, b', hj, hb', hlt', he'⟩
      · omega
      · exact hno j b' (hmem j hj) hb' hlt' (he'.trans heq)
  · have lift : ∀ b, (S 0).n ≤ b → ∀ y, heapAt E D (hget (S 0).heap) ops.size b = some y → w0.heap.size ≤ ρ.blk b ∨ ∃ j b', upd D i j = true ∧ b' ∈ (E j).wr ∧ b' < (S 0).n ∧ ρ0.blk b' = ρ.blk b := fun b hb y hy => by
      rcases inv.new b hb y hy with h | ⟨j, b', hj, h⟩
      · exact .inl h
      · exact .inr ⟨j, b', hmem j hj, h⟩
    rcases cases3 hy with ⟨h1, h2 | ⟨h2, h3⟩⟩ | ⟨h1, h2, h3⟩
    · rcases e.new b h2 y h1 with h | ⟨c, hc, hlt, hce⟩
      · exact .inl (Nat.le_trans inv.size h)
      · rw [← hce]
        by_cases hc0 : c < (S 0).n
        · exact .inr ⟨i, c, if_pos rfl, (hwr c).2 ⟨hc, hlt⟩, hc0, (a0 c hc0).1.symm⟩
        · obtain ⟨u, hu⟩ := e.vis c hc hlt
          exact lift c (by omega) u (hview hu)
    · obtain ⟨u, hu⟩ := back h1 h2
      rw [(e.agr b (.inl h2)).1]
      exact lift b hb u hu
    · rw [(e.agr b (by omega)).1]
      exact lift b hb y h1
  · rw [Act.put_defs]
    exact inv.defs.move (Nat.le_refl _) fun b hb => e.agr b (.inl (by omega))

theorem looks_same {o : Oper} {a a' : Act} (hs : ∀ cs b, o.op ≠ .select cs b) (h : ∀ t ∈ o.looksAt ops, a'.tmps[t]? = a.tmps[t]?) :
    execOp a'.eval o = execOp a.eval o ∧ Region.wanted o (yielded ops a'.tmps) = Region.wanted o (yielded ops a.tmps) := by
  constructor
  · refine execOp_congr o hs fun x hx => ?_
    cases x with
    | tmp t =>
      have := h t (List.mem_append_left _ (List.mem_filterMap.2 ⟨.tmp t, by simpa using hx, rfl⟩))
      simp only [Act.eval, Array.getD_eq_getD_getElem?, this]
    | _ => rfl
  · unfold Region.wanted
    cases hg : o.guard with
    | none => rfl
    | some gw =>
      obtain ⟨g, want⟩ := gw
      have hy : yielded ops a'.tmps g = yielded ops a.tmps g := by
        unfold yielded
        cases ht : (ops[g]?).bind (·.dst) with
        | none => rfl
        | some t =>
          have := h t (by simp [Oper.looksAt, hg, ht])
          simp [this]
      simp only [hy]
/-- Operation i is run. -/
theorem op_step (hc : CallerOK P call) (pa : Pass P call cx ops bef S E) (hM : M ≤ ops.size) (hF : ∀ j, j < M → Fact (E j)) (z : Start ρ0 (S 0) N) (hN : cx.N ≤ N) (r : Rdy M bef D i) (hi : i < ops.size) (inv : Inv ops S E N ρ0 w0 D ρ a w) :
    (Region.wanted ops[i] (yielded ops a.tmps) = true ∧ SemVal P ((execOp a.eval ops[i]).run P w) fun u w' => ∃ ρ', Inv ops S E N ρ0 w0 (upd D i) ρ' (a.put ops[i].dst u) w' ∧ Fact (E i)) ∨
    (Region.wanted ops[i] (yielded ops a.tmps) = false ∧ ∃ ρ', Inv ops S E N ρ0 w0 (upd D i) ρ' (a.put ops[i].dst undef) w ∧ Fact (E i)) := by
  obtain ⟨e0, e1, e2, hdef, hput, hsub, hsrt, hrun⟩ := pa.step i _ (Array.getElem?_eq_getElem hi)
  let a' : Act := { a with tmps := a.tmps.mapIdx fun k v => match (S i).env.get k with | some x => x.conc ρ | none => v }
  obtain ⟨hsS, hgS⟩ := heap_S pa hM hF z r.lt
  have hn0 : (S 0).n ≤ (S i).n := n_le pa hM hF (Nat.zero_le _) r.lt
  have a0 := agr0 pa hM hF r.don inv
  have hdefs : (S i).defs = (S 0).defs := by
    have : ∀ j, j ≤ ops.size → (S j).defs = (S 0).defs := by
      intro j
      induction j with
      | zero => intro _; rfl
      | succ j ih =>
        intro hj
        obtain ⟨-, -, -, -, hp, -⟩ := pa.step j _ (Array.getElem?_eq_getElem (show j < ops.size by omega))
        exact ((putSt_eq hp).2.2.2.1).trans (ih (by omega))
    exact this i (Nat.le_of_lt hi)
  have henv : ∀ view, EnvOK ρ ⟨(S i).env, view, (E i).lo, [], (S i).defs⟩ a' := fun view => by
    refine ⟨fun k x hk => ?_, fun k x hk => ?_, ?_⟩
    · have hlt := slot_lt pa z hN (Nat.le_of_lt hi) hk
      replace hk : (S i).env.get k = some x := hk
      have : k < a.tmps.size := by rw [inv.tmps]; exact hlt
      simp [a', this, hk]
    · have := slot_sc pa hM hF z r.lt (slot_S pa (Nat.le_of_lt hi) hk)
      rw [← e1] at this
      exact this
    · show DefOK ρ (E i).lo (S i).defs a.defers
      rw [hdefs]
      exact inv.defs.move (by rw [e1]; exact hn0) fun b hb => ⟨rfl, rfl⟩
  have hlook : ∀ t ∈ ops[i].looksAt ops, a'.tmps[t]? = a.tmps[t]? := fun t ht => by
    cases hx : (S i).env.get t with
    | none => simp [a', hx]
    | some x =>
      have h1 := inv.slot t x (look_at pa r hi ht hx)
      rw [h1]
      have : t < a.tmps.size := (Array.getElem?_eq_some_iff.1 h1).1
      simp [a', this, hx]
  obtain ⟨hex, hwan⟩ := looks_same (o := ops[i]) (fun cs b => pa.sel i _ cs b (Array.getElem?_eq_getElem hi)) hlook
  have hview : ∀ {b x}, hget (E i).view b = some x → heapAt E D (hget (S 0).heap) ops.size b = some x := fun h => view_at pa hM hF z r hi h ops.size (Nat.le_of_lt hi) (Nat.le_refl _)
  have hhp : HpOK ρ (E i).lo (E i).view w := by
    refine ⟨by rw [e1]; exact hsrt _ hsS, fun b x hx c hc => ?_, fun b x hx => inv.bk b x (hview hx), fun b b' x y hx hy => inv.inj b b' x y (hview hx) (hview hy), fun g hg => ?_, ?_⟩
    · have h1 := hsub b x hx
      rw [hgS b] at h1
      rw [e1]
      exact heap_sc pa hM hF z r.lt h1 c hc
    · rw [(a0 g (by have := z.big; omega)).1]; exact z.glob g hg
    · rw [e1]; exact Nat.le_trans z.big hn0
  rcases hrun with ⟨hw, hval, hhi, hwr, hh1, hvw⟩ | ⟨hw, env', defs', hex1⟩
  · refine .inr ⟨?_, ρ, ?_⟩
    · have := wanted_ok (ops := ops) (henv []) (show wantedS ops ops[i] (St.mk (S i).env [] (E i).lo [] (S i).defs).env = some false from hw)
      rw [← hwan]; exact this
    · have x : Ext [] ρ (E i).lo (E i).view w ρ (E i).hi (E i).h1 w := by rw [hhi, hh1, hvw]; exact Ext.refl _ _ _ _ trivial
      have hp : HpOK ρ (E i).hi (E i).h1 w := by rw [hhi, hh1]; rw [hvw] at hhp; exact hhp
      have hv : Sc (E i).hi (E i).val := by rw [hval]; exact Sc.v _ _
      have hwr' : ∀ b, b ∈ (E i).wr ↔ b ∈ ([] : List Nat) ∧ b < (E i).lo := fun b => by rw [hwr]; simp
      have := inv_step pa hM hF z hN r hi inv x hwr' hp hv
      rw [hval, conc_v] at this
      exact ⟨this, fact_of x hwr' hp hv⟩
  · refine .inl ⟨?_, ?_⟩
    · have := wanted_ok (ops := ops) (henv []) (show wantedS ops ops[i] (St.mk (S i).env [] (E i).lo [] (S i).defs).env = some true from hw)
      rw [← hwan]; exact this
    · have := exOp_ok hc hdef hex1 ρ a' w (henv _) hhp (Nat.le_refl _)
      rw [hex] at this
      refine this.mono fun u w' ⟨ρ', hu, eff⟩ => ⟨ρ', ?_⟩
      obtain ⟨L, x, hlog⟩ := eff.ext
      have hlog' : (E i).wr = olds (E i).lo L := by
        have h2 : (E i).wr = olds (E i).lo L ++ [] := hlog
        rw [h2, List.append_nil]
      have hwr' : ∀ b, b ∈ (E i).wr ↔ b ∈ L ∧ b < (E i).lo := fun b => by rw [hlog']; exact olds_mem
      subst hu
      exact ⟨inv_step pa hM hF z hN r hi inv x hwr' eff.hp eff.sc, fact_of x hwr' eff.hp eff.sc⟩
end
theorem SemVal.ex {P : Program} {x : Result Next} {R : Value → World → Prop} (h : SemVal P x R) : ∃ u w', R u w' := by
  unfold SemVal at h
  split at h
  · exact ⟨_, _, h⟩
  · exact ⟨_, _, h⟩
  · obtain ⟨e, w', fr, ⟨u, he, hr⟩, -⟩ := h []; exact ⟨u, w', hr⟩
  · exact h.elim
section
variable {P : Program} {call : Caller} {cx : Cx} {ops : Array Oper} {bef : Nat → Nat} {S : Nat → St} {E : Nat → Ef} {M N i : Nat} {D : Nat → Bool} {ρ0 ρ : Va} {w0 w : World} {a a0 : Act}

theorem inv_start (z : Start ρ0 (S 0) N) (hok : Ok cx.N ρ0 (S 0) a0 w0) (hN : a0.tmps.size = N) {D : Nat → Bool} (hD : ∀ k, D k = false) : Inv ops S E N ρ0 w0 D ρ0 a0 w0 := by
  have h1 : ∀ j, heapAt E D (hget (S 0).heap) j = hget (S 0).heap := by
    intro j
    induction j with
    | zero => rfl
    | succ j ih => unfold heapAt; rw [hD j, if_neg (by simp)]; exact ih
  have h2 : ∀ j, slotAt E D (S 0).env.get j = (S 0).env.get := by
    intro j
    induction j with
    | zero => rfl
    | succ j ih => unfold slotAt; rw [ih]; funext k; rw [hD j, if_neg (by simp)]
  refine ⟨fun k x h => ?_, fun b x h => ?_, fun b b' x y hx hy => ?_, fun b _ => ⟨rfl, rfl⟩, Nat.le_refl _, fun _ _ _ => rfl, fun b hb y hy => ?_, hok.env.defs, hN, Side.refl w0⟩
  · rw [h2] at h; exact hok.env.env k x h
  · rw [h1] at h; exact hok.hp.bk b x h
  · rw [h1] at hx hy; exact hok.hp.inj b b' x y hx hy
  · rw [h1] at hy; have := z.srt.lt hy; omega
/-- The text's order is one of those that may be drawn: so each operation's facts are known. -/
theorem facts_all (hc : CallerOK P call) (pa : Pass P call cx ops bef S E) (z : Start ρ0 (S 0) N) (hN : cx.N ≤ N) (hok : Ok cx.N ρ0 (S 0) a0 w0) (hsz : a0.tmps.size = N) :
    ∀ M, M ≤ ops.size → (∀ j, j < M → Fact (E j)) ∧ ∃ ρ a w, Inv ops S E N ρ0 w0 (fun j => decide (j < M)) ρ a w := by
  intro M
  induction M with
  | zero => exact fun _ => ⟨fun j h => by omega, ρ0, a0, w0, inv_start z hok hsz fun k => by simp⟩
  | succ M ih =>
    intro hM
    obtain ⟨hF, ρ, a, w, inv⟩ := ih (by omega)
    have r : Rdy M bef (fun j => decide (j < M)) M := ⟨by simp, Nat.le_refl _, fun k hk => by simpa using hk, fun k hk hk' => by simp at hk'; omega, fun k hk hk' => by simp at hk; omega⟩
    have hupd : upd (fun j => decide (j < M)) M = fun j => decide (j < M + 1) := by
      funext j
      unfold upd
      by_cases h : j = M
      · subst h; simp
      · rw [if_neg h]; exact decide_eq_decide.2 (by omega)
    have step : ∃ ρ' a' w', Inv ops S E N ρ0 w0 (upd (fun j => decide (j < M)) M) ρ' a' w' ∧ Fact (E M) := by
      rcases op_step hc pa (by omega) hF z hN r (by omega) inv with ⟨-, h⟩ | ⟨-, ρ', h1, h2⟩
      · obtain ⟨u, w', ρ', h1, h2⟩ := h.ex; exact ⟨ρ', _, w', h1, h2⟩
      · exact ⟨ρ', _, w, h1, h2⟩
    obtain ⟨ρ', a', w', h1, h2⟩ := step
    refine ⟨fun j hj => ?_, ρ', a', w', hupd ▸ h1⟩
    by_cases h : j = M
    · subst h; exact h2
    · exact hF j (by omega)
theorem hasBit_before {l : List (Oper × Nat)} (hp : planOf ops = some l) : l = ops.toList.zip (Region.before ops).toList ∧ Region.noSelect ops = true ∧ slotsOK ops l = true ∧ edgesOK l = true := by
  obtain ⟨h1, h⟩ := guardO_eq.1 (show guardO (Nat.beq (ops.toList.zip (Region.before ops).toList).length ops.size) (guardO (Region.noSelect ops) (guardO (slotsOK ops (ops.toList.zip (Region.before ops).toList)) (guardO (edgesOK (ops.toList.zip (Region.before ops).toList)) (some (ops.toList.zip (Region.before ops).toList))))) = some l from hp)
  obtain ⟨h2, h⟩ := guardO_eq.1 h
  obtain ⟨h3, h⟩ := guardO_eq.1 h
  obtain ⟨h4, h⟩ := guardO_eq.1 h
  cases h
  exact ⟨rfl, h2, h3, h4⟩
theorem plan_get {l : List (Oper × Nat)} (hp : planOf ops = some l) {j : Nat} {o : Oper} (ho : ops[j]? = some o) : ∃ b, (Region.before ops)[j]? = some b ∧ l[j]? = some (o, b) := by
  obtain ⟨rfl, -⟩ := hasBit_before hp
  have hj := (Array.getElem?_eq_some_iff.1 ho).1
  have hj' : j < (Region.before ops).size := by rw [before_size]; exact hj
  refine ⟨(Region.before ops)[j], Array.getElem?_eq_getElem hj', ?_⟩
  rw [List.getElem?_zip_eq_some]
  exact ⟨by simpa using ho, by simp [hj']⟩
/-- Edges go back. -/
theorem edge_lt {l : List (Oper × Nat)} (hp : planOf ops = some l) {j : Nat} {o : Oper} (ho : ops[j]? = some o) {e : Edge} (he : e ∈ o.after) (hb : Region.binds .any e = true) : e.on < j := by
  obtain ⟨b, -, hl⟩ := plan_get hp ho
  obtain ⟨-, -, -, h4⟩ := hasBit_before hp
  unfold edgesOK at h4
  rw [List.all_eq_true] at h4
  have := h4 ((o, b), j) (List.mem_zipIdx_iff_getElem?.2 hl)
  rw [Array.all_eq_true_iff_forall_mem] at this
  have := this e he
  simp only [hb, Bool.not_true, Bool.false_or, Bool.and_eq_true] at this
  exact Nat.le_of_ble_eq_true this.1
theorem slots_apart {l : List (Oper × Nat)} (hp : planOf ops = some l) {k j : Nat} {ok oj : Oper} {b : Nat} (hk : ops[k]? = some ok) (hj : ops[j]? = some oj) (hb : (Region.before ops)[j]? = some b) (hlt : k < j) (hn : hasBit b k = false) : ok.apart ops oj = true := by
  obtain ⟨b1, -, hl1⟩ := plan_get hp hk
  obtain ⟨b2, e2, hl2⟩ := plan_get hp hj
  rw [hb] at e2
  cases e2
  obtain ⟨-, -, h3, -⟩ := hasBit_before hp
  unfold slotsOK at h3
  rw [List.all_eq_true] at h3
  have := h3 ((ok, b1), k) (List.mem_zipIdx_iff_getElem?.2 hl1)
  rw [List.all_eq_true] at this
  have := this ((oj, b), j) (List.mem_zipIdx_iff_getElem?.2 hl2)
  simp only [hn, Bool.false_or, Bool.or_eq_true] at this
  exact this.resolve_left fun h => by have := Nat.le_of_ble_eq_true h; omega
def befOf (ops : Array Oper) (j : Nat) : Nat := (Region.before ops).getD j 0
theorem befOf_eq {j b : Nat} (h : (Region.before ops)[j]? = some b) : befOf ops j = b := by unfold befOf; rw [Array.getD_eq_getD_getElem?, h]; rfl
theorem any_ok {Q : Exit → Act → World → Prop} (hc : CallerOK P call) {l : List (Oper × Nat)} (hp : planOf ops = some l) (pa : Pass P call cx ops (befOf ops) S E) (z : Start ρ0 (S 0) N) (hN : cx.N ≤ N) (hF : ∀ j, j < ops.size → Fact (E j))
    (hq : ∀ ρ a w, Inv ops S E N ρ0 w0 (fun j => decide (j < ops.size)) ρ a w → Q .normal a w) :
    ∀ (fuel : Nat) (listed : Array Bool) (ρ : Va) (a : Act) (w : World), listed.size = ops.size → listed.toList.count false ≤ fuel → (∀ j o, listed.getD j false = true → ops[j]? = some o → ∀ e ∈ o.after, Region.binds .any e = true → listed.getD e.on false = true) →
      Inv ops S E N ρ0 w0 (fun j => listed.getD j false) ρ a w → wpAny P .any ops Q fuel listed a w := by
  have fin : ∀ (listed : Array Bool) (ρ : Va) (a : Act) (w : World), listed.size = ops.size → (∀ j, j < ops.size → listed.getD j false = true) → Inv ops S E N ρ0 w0 (fun j => listed.getD j false) ρ a w → Q .normal a w := fun listed ρ a w hs hall inv => by
    have hdon : ∀ k, listed.getD k false = true → k < ops.size := fun k hk => by
      rcases Nat.lt_or_ge k listed.size with h | h
      · omega
      · simp [Array.getD_eq_getD_getElem?, Array.getElem?_eq_none h] at hk
    have he : (fun j => listed.getD j false) = fun j => decide (j < ops.size) := by
      funext j
      cases hl : listed.getD j false with
      | true => exact (decide_eq_true (hdon j hl)).symm
      | false => exact (decide_eq_false fun hj => by rw [hall j hj] at hl; cases hl).symm
    rw [he] at inv
    exact hq ρ a w inv
  have none_left : ∀ (listed : Array Bool), listed.size = ops.size → Region.ready .any ops listed = [] → ∀ j, j < ops.size → listed.getD j false = true := fun listed hs hr j => by
    induction j using Nat.strongRecOn with
    | ind j ih =>
      intro hj
      cases hl : listed.getD j false with
      | true => rfl
      | false =>
        exfalso
        have : j ∈ Region.ready .any ops listed := mem_ready.2 ⟨by
          have hj' : j < listed.size := by omega
          simp only [Array.getD_eq_getD_getElem?, Array.getElem?_eq_getElem hj', Option.getD_some] at hl ⊢
          exact hl, ops[j], Array.getElem?_eq_getElem hj, fun e he hb => by
            have hlt := edge_lt hp (Array.getElem?_eq_getElem hj) he hb
            exact ih e.on hlt (by omega)⟩
        rw [hr] at this
        cases this
  intro fuel
  induction fuel with
  | zero =>
    intro listed ρ a w hs hcnt hcl inv
    have hall : ∀ j, j < ops.size → listed.getD j false = true := fun j hj => by
      have hj' : j < listed.size := by omega
      simp only [Array.getD_eq_getD_getElem?, Array.getElem?_eq_getElem hj', Option.getD_some]
      have h0 : listed.toList.count false = 0 := by omega
      have := List.count_eq_zero.1 h0
      cases hx : listed[j] with
      | true => rfl
      | false => exact absurd (by rw [← hx]; simp) this
    refine ⟨?_, fin listed ρ a w hs hall inv⟩
    cases hr : Region.ready .any ops listed with
    | nil => rfl
    | cons j rs =>
      have hm : j ∈ Region.ready .any ops listed := by rw [hr]; exact List.mem_cons_self
      obtain ⟨h1, o, ho, -⟩ := mem_ready.1 hm
      have hj := (Array.getElem?_eq_some_iff.1 ho).1
      have h2 := hall j hj
      have hj' : j < listed.size := by omega
      simp only [Array.getD_eq_getD_getElem?, Array.getElem?_eq_getElem hj', Option.getD_some] at h1 h2
      rw [h1] at h2
      cases h2
  | succ fuel ih =>
    intro listed ρ a w hs hcnt hcl inv
    refine ⟨fun hr => fin listed ρ a w hs (none_left listed hs hr) inv, fun i hi => ?_⟩
    obtain ⟨h1, o, ho, hed⟩ := mem_ready.1 hi
    have hi' := (Array.getElem?_eq_some_iff.1 ho).1
    have hil : i < listed.size := by omega
    have hl : listed[i] = false := by simpa [Array.getD_eq_getD_getElem?, Array.getElem?_eq_getElem hil] using h1
    have hun : listed.getD i false = false := by simp [Array.getD_eq_getD_getElem?, Array.getElem?_eq_getElem hil, hl]
    have hdon : ∀ k, listed.getD k false = true → k < ops.size := fun k hk => by
      rcases Nat.lt_or_ge k listed.size with h | h
      · omega
      · simp [Array.getD_eq_getD_getElem?, Array.getElem?_eq_none h] at hk
    have hbit : ∀ {m k : Nat}, hasBit m k = false ∨ m.testBit k = true := fun {m k} => by rw [hasBit_eq]; cases m.testBit k <;> simp
    have r : Rdy ops.size (befOf ops) (fun j => listed.getD j false) i := by
      refine ⟨hun, Nat.le_of_lt hi', hdon, fun k hk hk' => ?_, fun k hk hk' => ?_⟩
      · obtain ⟨b, hb, -⟩ := plan_get hp ho
        rw [befOf_eq hb]
        refine hbit.resolve_right fun hbb => ?_
        have := before_closed (D := fun j => listed.getD j false) hcl i o b ho hed hb k hbb
        rw [show listed.getD k false = false from hk'] at this
        cases this
      · have hks := hdon k hk
        have hko : ops[k]? = some ops[k] := Array.getElem?_eq_getElem hks
        obtain ⟨b, hb, -⟩ := plan_get hp hko
        rw [befOf_eq hb]
        refine hbit.resolve_right fun hbb => ?_
        have := before_closed (D := fun j => listed.getD j false) hcl k _ b hko (hcl k _ hk hko) hb i hbb
        rw [show listed.getD i false = false from hun] at this
        cases this
    have hs2 : (listed.setIfInBounds i true).size = ops.size := by simp [hs]
    have hcnt2 : (listed.setIfInBounds i true).toList.count false ≤ fuel := by
      rw [Array.toList_setIfInBounds, List.count_set (by simpa using hil)]
      have hpos : 0 < listed.toList.count false := List.count_pos_iff.2 (by rw [← hl]; simp)
      have h3 : listed.toList.count false - 1 + 0 ≤ fuel := by omega
      simpa [hl] using h3
    have hcl2 : ∀ j o, (listed.setIfInBounds i true).getD j false = true → ops[j]? = some o → ∀ e ∈ o.after, Region.binds .any e = true → (listed.setIfInBounds i true).getD e.on false = true := fun j o' hj ho' e he hb => by
      refine getD_set_true ?_
      by_cases hji : j = i
      · subst hji; rw [ho] at ho'; cases ho'; exact hed e he hb
      · rw [getD_set_ne false (Ne.symm hji)] at hj
        exact hcl j o' hj ho' e he hb
    have hD : (fun j => (listed.setIfInBounds i true).getD j false) = upd (fun j => listed.getD j false) i := by
      funext j
      unfold upd
      by_cases hji : j = i
      · subst hji; rw [if_pos rfl]; simp [Array.getD_eq_getD_getElem?, hil]
      · rw [if_neg hji, getD_set_ne false (Ne.symm hji)]
    have hoi : ops[i] = o := by rw [Array.getElem?_eq_getElem hi'] at ho; exact Option.some.inj ho
    have stp := op_step hc pa (Nat.le_refl _) hF z hN r hi' inv
    rw [hoi] at stp
    unfold wpOp
    rw [ho]
    dsimp only
    rcases stp with ⟨hw, h⟩ | ⟨hw, ρ', h, -⟩
    · rw [hw, if_pos rfl]
      exact .inl (h.wp fun u w' ⟨ρ', h, _⟩ => ih _ ρ' _ w' hs2 hcnt2 hcl2 (by rw [hD]; exact h))
    · rw [hw, if_neg (by simp)]
      exact ih _ ρ' _ w hs2 hcnt2 hcl2 (by rw [hD]; exact h)
end
end Go.Ex

/- Regions whose order is open: the runner's pass, and what it says of the region. -/
namespace Go.Ex
open Go

theorem memN_eq {b : Nat} {l : List Nat} : memN b l = true ↔ b ∈ l := by
  induction l with
  | nil => exact ⟨fun h => (by cases h), fun h => (by cases h)⟩
  | cons a l ih =>
    show ifB (Nat.beq a b) true (memN b l) = true ↔ _
    rcases beq_dec a b with ⟨e, rfl⟩ | ⟨e, hne⟩
    · rw [e, ifB_true]; simp
    · rw [e, ifB_false, ih, List.mem_cons]
      exact ⟨.inr, fun h => h.resolve_left (Ne.symm hne)⟩
theorem unord_mem {bj : Nat} {rs : List Rc} {r : Rc} : r ∈ unord bj rs ↔ r ∈ rs ∧ hasBit bj r.idx = false := by
  induction rs with
  | nil => exact ⟨fun h => (by cases h), fun ⟨h, _⟩ => (by cases h)⟩
  | cons a l ih =>
    show r ∈ ifB (hasBit bj a.idx) (unord bj l) (a :: unord bj l) ↔ _
    cases hb : hasBit bj a.idx with
    | true =>
      rw [ifB_true, ih, List.mem_cons]
      exact ⟨fun ⟨h1, h2⟩ => ⟨.inr h1, h2⟩, fun ⟨h1, h2⟩ => ⟨h1.resolve_left (fun h => by subst h; rw [hb] at h2; cases h2), h2⟩⟩
    | false =>
      rw [ifB_false, List.mem_cons, ih, List.mem_cons]
      constructor
      · rintro (rfl | ⟨h1, h2⟩)
        · exact ⟨.inl rfl, hb⟩
        · exact ⟨.inr h1, h2⟩
      · rintro ⟨rfl | h1, h2⟩
        · exact .inl rfl
        · exact .inr ⟨h1, h2⟩
theorem touched_no {r : Rc} {b : Nat} (h : touched r b = false) : (b < r.lo ∨ r.hi ≤ b) ∧ b ∉ r.wr := by
  unfold touched at h
  cases hi : (ifB (Nat.ble r.lo b) (Nat.ble (Nat.succ b) r.hi) false) with
  | true => rw [hi] at h; cases h
  | false =>
    rw [hi, ifB_false] at h
    refine ⟨?_, fun hm => by rw [memN_eq.2 hm] at h; cases h⟩
    rcases ble_dec r.lo b with ⟨e, hle⟩ | ⟨e, hlt⟩
    · rw [e, ifB_true] at hi
      rcases ble_dec (b + 1) r.hi with ⟨e2, hle2⟩ | ⟨e2, hlt2⟩
      · rw [show Nat.ble (Nat.succ b) r.hi = true from e2] at hi; cases hi
      · exact .inr (by omega)
    · exact .inl hlt
theorem hidden_no {us : List Rc} {b : Nat} (h : hidden us b = false) : ∀ r ∈ us, touched r b = false := by
  induction us with
  | nil => intro r hr; cases hr
  | cons a l ih =>
    intro r hr
    replace h : ifB (touched a b) true (hidden l b) = false := h
    cases ha : touched a b with
    | true => rw [ha] at h; cases h
    | false =>
      rw [ha, ifB_false] at h
      rcases List.mem_cons.1 hr with rfl | hr
      · exact ha
      · exact ih h r hr
theorem viewAll_get (us : List Rc) : ∀ (l : List Hp) (b : Nat) (x : B), hget (viewAll us l) b = some x → hget l b = some x ∧ hidden us b = false
  | [], b, x, h => by cases h
  | ⟨i, y⟩ :: l, b, x, h => by
    replace h : hget (ifB (hidden us i) (viewAll us l) (⟨i, y⟩ :: viewAll us l)) b = some x := h
    rw [hget_cons]
    cases hi : hidden us i with
    | true =>
      rw [hi, ifB_true] at h
      obtain ⟨h1, h2⟩ := viewAll_get us l b x h
      rw [if_neg (fun e => by subst e; rw [hi] at h2; cases h2)]
      exact ⟨h1, h2⟩
    | false =>
      rw [hi, ifB_false, hget_cons] at h
      split at h
      · rename_i e; subst e; cases h; exact ⟨if_pos rfl, hi⟩
      · rename_i e; rw [if_neg e]; exact viewAll_get us l b x h
theorem viewAll_srt (us : List Rc) : ∀ {l : List Hp} {n : Nat}, Srt l n → Srt (viewAll us l) n
  | [], _, _ => trivial
  | ⟨i, y⟩ :: l, n, h => by
    show Srt (ifB (hidden us i) (viewAll us l) (⟨i, y⟩ :: viewAll us l)) n
    cases hidden us i with
    | true => exact (viewAll_srt us h.2).mono (Nat.le_of_lt h.1)
    | false => exact ⟨h.1, viewAll_srt us h.2⟩
def ViewOK (us : List Rc) (l v : List Hp) : Prop := (∀ b x, hget v b = some x → hget l b = some x ∧ ∀ r ∈ us, (b < r.lo ∨ r.hi ≤ b) ∧ b ∉ r.wr) ∧ ∀ n, Srt l n → Srt v n
theorem viewNil_ok (us : List Rc) (l : List Hp) : ViewOK us l [] := ⟨fun b x h => (by cases h), fun _ _ => trivial⟩
theorem viewAll_ok (us : List Rc) (l : List Hp) : ViewOK us l (viewAll us l) := ⟨fun b x h => let ⟨h1, h2⟩ := viewAll_get us l b x h; ⟨h1, fun r hr => touched_no (hidden_no h2 r hr)⟩, fun _ h => viewAll_srt us h⟩
theorem viewOne_ok (us : List Rc) (l : List Hp) (c : Nat) : ViewOK us l (viewOne us l c) := by
  unfold viewOne
  cases hh : hidden us c with
  | true => exact viewNil_ok us l
  | false =>
    rw [ifB_false]
    cases hx : hget l c with
    | none => exact viewNil_ok us l
    | some y =>
      refine ⟨fun b x h => ?_, fun n hs => ⟨hs.lt hx, trivial⟩⟩
      replace h : hget [⟨c, y⟩] b = some x := h
      rw [hget_cons] at h
      split at h
      · rename_i e; subst e; cases h; exact ⟨hx, fun r hr => touched_no (hidden_no hh r hr)⟩
      · cases h
theorem viewPtr_ok (us : List Rc) (l : List Hp) (env : T) (a : Operand) : ViewOK us l (viewPtr us l env a) := by
  unfold viewPtr
  cases opv env a with
  | none => exact viewNil_ok us l
  | some p =>
    cases p with
    | ptr b off => exact viewOne_ok us l b
    | _ => exact viewNil_ok us l
theorem viewRest_ok (us : List Rc) (l : List Hp) : ViewOK us l (List.rec l (fun _ _ _ => viewAll us l) us) := by
  cases us with
  | nil => exact ⟨fun b x h => ⟨h, fun r hr => (by cases hr)⟩, fun _ h => h⟩
  | cons r us => exact viewAll_ok _ l
theorem viewOf_ok (us : List Rc) (l : List Hp) (env : T) (op : Op) : ViewOK us l (viewOf us l env op) := by
  unfold viewOf
  split
  · exact viewPtr_ok _ _ _ _
  · exact viewPtr_ok _ _ _ _
  · exact viewRest_ok us l
  · exact viewRest_ok us l
  · exact viewNil_ok us l
theorem inner_no {b : Nat} {us : List Rc} (h : (List.rec false (fun r _ ih => ifB (memN b r.vis) true ih) us : Bool) = false) : ∀ r ∈ us, b ∉ r.vis := by
  induction us with
  | nil => intro r hr; cases hr
  | cons a l ih =>
    intro r hr
    replace h : ifB (memN b a.vis) true (List.rec false (fun r _ ih => ifB (memN b r.vis) true ih) l) = false := h
    cases ha : memN b a.vis with
    | true => rw [ha] at h; cases h
    | false =>
      rw [ha, ifB_false] at h
      rcases List.mem_cons.1 hr with rfl | hr
      · exact fun hm => by rw [memN_eq.2 hm] at ha; cases ha
      · exact ih h r hr
theorem unseen_no {us : List Rc} {L : List Nat} (h : unseen us L = true) : ∀ b ∈ L, ∀ r ∈ us, b ∉ r.vis := by
  induction L with
  | nil => intro b hb; cases hb
  | cons c L ih =>
    intro b hb
    replace h : ifB (List.rec false (fun r _ ih => ifB (memN c r.vis) true ih) us) false (unseen us L) = true := h
    cases hc : (List.rec false (fun r _ ih => ifB (memN c r.vis) true ih) us : Bool) with
    | true => rw [hc] at h; cases h
    | false =>
      rw [hc, ifB_false] at h
      rcases List.mem_cons.1 hb with rfl | hb
      · exact inner_no hc
      · exact ih h b hb
theorem cleanV_av {us : List Rc} {v : SV} (h : cleanV us v = true) : ∀ r ∈ us, Av r.lo r.hi v := by
  induction us with
  | nil => intro r hr; cases hr
  | cons a l ih =>
    intro r hr
    obtain ⟨h1, h2⟩ := ifB_and (show ifB (v.avoids a.lo a.hi) (cleanV l v) false = true from h)
    rcases List.mem_cons.1 hr with rfl | hr
    · exact avoids_av v h1
    · exact ih h2 r hr
theorem cleanCells_av {us : List Rc} {cs : List SV} (h : (List.rec true (fun r _ ih => ifB (avoidAll r.lo r.hi cs) ih false) us : Bool) = true) : ∀ r ∈ us, ∀ c ∈ cs, Av r.lo r.hi c := by
  induction us with
  | nil => intro r hr; cases hr
  | cons a l ih =>
    intro r hr
    obtain ⟨h1, h2⟩ := ifB_and (show ifB (avoidAll a.lo a.hi cs) (List.rec true (fun r _ ih => ifB (avoidAll r.lo r.hi cs) ih false) l) false = true from h)
    rcases List.mem_cons.1 hr with rfl | hr
    · exact avoidAll_av cs h1
    · exact ih h2 r hr
theorem cleanB_av {us : List Rc} {l : List Hp} (h : cleanB us l = true) : ∀ x ∈ l, ∀ r ∈ us, ∀ c ∈ x.b.cells, Av r.lo r.hi c := by
  induction l with
  | nil => intro x hx; cases hx
  | cons a l ih =>
    intro x hx
    have h' : ifB (List.rec true (fun r _ ih => ifB (avoidAll r.lo r.hi a.b.cells) ih false) us) (cleanB us l) false = true := h
    obtain ⟨h1, h2⟩ := ifB_and h'
    rcases List.mem_cons.1 hx with rfl | hx
    · exact cleanCells_av h1
    · exact ih h2 x hx
theorem written_mem {v : List Hp} {b : Nat} {x : B} (hx : hget v b = some x) : ∀ {L : List Nat}, b ∈ L → (⟨b, x⟩ : Hp) ∈ written v L
  | c :: L, h => by
    have e : written v (c :: L) = Option.rec (written v L) (fun bl => ⟨c, bl⟩ :: written v L) (hget v c) := rfl
    rw [e]
    rcases List.mem_cons.1 h with rfl | h
    · rw [hx]; exact List.mem_cons_self
    · have := written_mem hx h
      cases hget v c with
      | none => exact this
      | some y => exact List.mem_cons_of_mem _ this
theorem ids_mem {l : List Hp} {b : Nat} {x : B} (h : hget l b = some x) : b ∈ idsOf l := by
  induction l with
  | nil => cases h
  | cons a l ih =>
    obtain ⟨i, y⟩ := a
    rw [hget_cons] at h
    show b ∈ i :: idsOf l
    split at h
    · rename_i e; subst e; exact List.mem_cons_self
    · exact List.mem_cons_of_mem _ (ih h)

/-- One step of the pass. -/
def StepR (P : Program) (call : Caller) (cx : Cx) (ops : Array Oper) (o : Oper) (bj j : Nat) (d : Dr) (e : Ef) (d1 : Dr) : Prop :=
  e.dst = o.dst ∧ e.lo = d.1.n ∧ e.hi = d1.1.n ∧ isDefer o.op = false ∧
  putSt cx o.dst e.val ⟨d.1.env, newer e.lo e.h1 ++ update e.h1 e.wr d.1.heap, e.hi, olds cx.base e.wr ++ d.1.log, d.1.defs⟩ = some d1.1 ∧
  ViewOK (unord bj d.2) d.1.heap e.view ∧
  ((wantedS ops o d.1.env = some false ∧ e.val = .v undef ∧ e.hi = e.lo ∧ e.wr = [] ∧ e.h1 = [] ∧ e.view = []) ∨
    (wantedS ops o d.1.env = some true ∧ ∃ env' defs', exOp P call ⟨e.lo, cx.N⟩ o ⟨d.1.env, e.view, e.lo, [], d.1.defs⟩ = some (e.val, ⟨env', e.h1, e.hi, e.wr, defs'⟩))) ∧
  d1.2 = ⟨j, e.lo, e.hi, e.wr, idsOf e.view⟩ :: d.2 ∧
  ∀ r ∈ unord bj d.2, (∀ b ∈ e.wr, b ∉ r.vis) ∧ Av r.lo r.hi e.val ∧ (∀ b x, hget (newer e.lo e.h1) b = some x → ∀ c ∈ x.cells, Av r.lo r.hi c) ∧ (∀ b x, b ∈ e.wr → hget e.h1 b = some x → ∀ c ∈ x.cells, Av r.lo r.hi c)
section
variable {P : Program} {call : Caller} {cx : Cx} {ops : Array Oper}
theorem step_of {o : Oper} {bj j : Nat} {d d1 : Dr} (h : drawOp P call ops j bj o cx d = some d1) : ∃ e, StepR P call cx ops o bj j d e d1 := by
  obtain ⟨⟨env, heap, n, log, defs⟩, rs⟩ := d
  obtain ⟨hd, h⟩ := guardO_eq.1 h
  have hd : isDefer o.op = false := by cases hx : isDefer o.op <;> simp_all
  obtain ⟨t, ht, h⟩ := bindO_eq.1 h
  cases t with
  | false =>
    obtain ⟨s, hs, h⟩ := bindO_eq.1 (show (bindO (putSt cx o.dst (.v undef) ⟨env, heap, n, log, defs⟩) fun s => some (s, (⟨j, n, n, [], []⟩ : Rc) :: rs)) = some d1 from h)
    cases h
    refine ⟨⟨o.dst, .v undef, n, n, [], [], []⟩, rfl, rfl, ((putSt_eq hs).2.1).symm, hd, hs, viewNil_ok _ _, .inl ⟨ht, rfl, rfl, rfl, rfl, rfl⟩, rfl, fun r hr => ⟨fun b hb => (by cases hb), ?_, fun b x hx => (by cases hx), fun b x hb => (by cases hb)⟩⟩
    exact (Sc.v 0 undef).av (Nat.zero_le _)
  | true =>
    obtain ⟨⟨v, ⟨env1, h1, n1, L, defs1⟩⟩, hex, h⟩ := bindO_eq.1 (show (bindO (exOp P call ⟨n, cx.N⟩ o ⟨env, viewOf (unord bj rs) heap env o.op, n, [], defs⟩) fun r => r.2.on fun _ h1 n1 L _ =>
      guardO (unseen (unord bj rs) L) (guardO (cleanV (unord bj rs) r.1) (guardO (cleanB (unord bj rs) (newer n h1)) (guardO (cleanB (unord bj rs) (written h1 L))
      (bindO (putSt cx o.dst r.1 ⟨env, newer n h1 ++ update h1 L heap, n1, olds cx.base L ++ log, defs⟩) fun s => some (s, (⟨j, n, n1, L, idsOf (viewOf (unord bj rs) heap env o.op)⟩ : Rc) :: rs)))))) = some d1 from h)
    obtain ⟨g1, h⟩ := guardO_eq.1 h
    obtain ⟨g2, h⟩ := guardO_eq.1 h
    obtain ⟨g3, h⟩ := guardO_eq.1 h
    obtain ⟨g4, h⟩ := guardO_eq.1 h
    obtain ⟨s, hs, h⟩ := bindO_eq.1 h
    cases h
    refine ⟨⟨o.dst, v, n, n1, L, h1, viewOf (unord bj rs) heap env o.op⟩, rfl, rfl, ((putSt_eq hs).2.1).symm, hd, hs, viewOf_ok _ _ _ _, .inr ⟨ht, env1, defs1, hex⟩, rfl, fun r hr => ⟨fun b hb => unseen_no g1 b hb r hr, cleanV_av g2 r hr, fun b x hx => cleanB_av g3 _ (hget_mem hx) r hr, fun b x hb hx => cleanB_av g4 _ (written_mem hx hb) r hr⟩⟩
theorem draw_chain : ∀ (l : List (Oper × Nat)) (j : Nat) (d d' : Dr), exDrawL P call cx ops l j d = some d' →
    ∃ (T : Nat → Dr) (E : Nat → Ef), T 0 = d ∧ T l.length = d' ∧ ∀ t o, l[t]? = some o → StepR P call cx ops o.1 o.2 (j + t) (T t) (E t) (T (t + 1))
  | [], j, d, d', h => by cases h; exact ⟨fun _ => d, fun _ => ⟨none, .v undef, 0, 0, [], [], []⟩, rfl, rfl, fun t o h => by simp at h⟩
  | o :: l, j, d, d', h => by
    obtain ⟨d1, h1, h⟩ := bindO_eq.1 (show (bindO (drawOp P call ops j o.2 o.1 cx d) fun d => force (Nat.succ j) fun j => exDrawL P call cx ops l j d) = some d' from h)
    rw [force_eq] at h
    obtain ⟨e, he⟩ := step_of h1
    obtain ⟨T, E, t0, tl, hs⟩ := draw_chain l (j + 1) d1 d' h
    refine ⟨fun t => match t with | 0 => d | t + 1 => T t, fun t => match t with | 0 => e | t + 1 => E t, rfl, tl, fun t o' ho => ?_⟩
    cases t with
    | zero =>
      simp only [List.getElem?_cons_zero, Option.some.injEq] at ho
      subst ho
      show StepR P call cx ops o.1 o.2 (j + 0) d e (T 0)
      rw [t0]; exact he
    | succ t =>
      have := hs t o' (by simpa using ho)
      rw [show j + 1 + t = j + (t + 1) by omega] at this
      exact this
theorem pass_of {l : List (Oper × Nat)} (hp : planOf ops = some l) {s : St} {d : Dr} (h : exDrawL P call cx ops l 0 (s, []) = some d) :
    ∃ (S : Nat → St) (E : Nat → Ef), S 0 = s ∧ S ops.size = d.1 ∧ Pass P call cx ops (befOf ops) S E := by
  obtain ⟨T, E, t0, tl, hs⟩ := draw_chain l 0 (s, []) d h
  have hlen : l.length = ops.size := by
    obtain ⟨rfl, -⟩ := hasBit_before hp
    simp [before_size]
  have hstep : ∀ j o, ops[j]? = some o → StepR P call cx ops o (befOf ops j) j (T j) (E j) (T (j + 1)) := fun j o ho => by
    obtain ⟨b, hb, hl⟩ := plan_get hp ho
    have := hs j _ hl
    rw [Nat.zero_add] at this
    rw [befOf_eq hb]
    exact this
  have recs : ∀ j, j ≤ ops.size → ∀ k, k < j → (⟨k, (E k).lo, (E k).hi, (E k).wr, idsOf (E k).view⟩ : Rc) ∈ (T j).2 := by
    intro j
    induction j with
    | zero => intro _ k hk; omega
    | succ j ih =>
      intro hj k hk
      obtain ⟨-, -, -, -, -, -, -, hr, -⟩ := hstep j _ (Array.getElem?_eq_getElem (show j < ops.size by omega))
      rw [hr]
      by_cases h : k = j
      · subst h; exact List.mem_cons_self
      · exact List.mem_cons_of_mem _ (ih (by omega) k (by omega))
  refine ⟨fun j => (T j).1, E, by show (T 0).1 = s; rw [t0], by show (T ops.size).1 = d.1; rw [← hlen, tl], ⟨fun j o ho => ?_, fun k j ok oj hlt hk hj hb => ?_, fun j o cs b ho => ?_⟩⟩
  · obtain ⟨a1, a2, a3, a4, a5, a6, a7, -⟩ := hstep j o ho
    exact ⟨a1, a2, a3, a4, a5, fun b x hx => (a6.1 b x hx).1, a6.2, a7⟩
  · obtain ⟨a1, a2, a3, a4, a5, a6, a7, a8, a9⟩ := hstep j oj hj
    obtain ⟨b, hbb, hl⟩ := plan_get hp hj
    have hmem : (⟨k, (E k).lo, (E k).hi, (E k).wr, idsOf (E k).view⟩ : Rc) ∈ unord (befOf ops j) (T j).2 := unord_mem.2 ⟨recs j (by have := (Array.getElem?_eq_some_iff.1 hj).1; omega) k hlt, hb⟩
    obtain ⟨g1, g2, g3, g4⟩ := a9 _ hmem
    refine ⟨slots_apart hp hk hj hbb hlt (by rw [← befOf_eq hbb]; exact hb), fun b x hx => (a6.1 b x hx).2 _ hmem, fun b hbw => ?_, g2, g3, g4⟩
    cases hx : hget (E k).view b with
    | none => rfl
    | some x => exact absurd (ids_mem hx) (g1 b hbw)
  · exact Region.noSelect_spec (hasBit_before hp).2.1 j o cs b ho
theorem known_first {bef : Nat → Nat} {S : Nat → St} {E : Nat → Ef} {ρ0 : Va} {N M : Nat} (pa : Pass P call cx ops bef S E) (hM : M ≤ ops.size) (hF : ∀ j, j < M → Fact (E j)) (z : Start ρ0 (S 0) N) {D : Nat → Bool} : ∀ {j : Nat}, j ≤ M → ∀ {b x}, b < (S 0).n → heapAt E D (hget (S 0).heap) j b = some x → ∃ y, hget (S 0).heap b = some y
  | 0, _, b, x, _, h => ⟨x, h⟩
  | j + 1, hj, b, x, hb, h => by
    unfold heapAt at h
    split at h
    · unfold Ef.app at h
      have := n_le pa hM hF (Nat.zero_le j) (by omega)
      rw [← (pa.bounds (show j < ops.size by omega)).1] at this
      rw [if_neg (by omega)] at h
      split at h
      · split at h
        · obtain ⟨u, hu, -⟩ := Option.map_eq_some_iff.1 h
          exact known_first pa hM hF z (by omega) hb hu
        · cases h
      · exact known_first pa hM hF z (by omega) hb h
    · exact known_first pa hM hF z (by omega) hb h
theorem log_all {bef : Nat → Nat} {S : Nat → St} {E : Nat → Ef} (pa : Pass P call cx ops bef S E) {b : Nat} (hb : b < cx.base) : ∀ {j : Nat}, j ≤ ops.size → (b ∈ (S j).log ↔ (∃ k, k < j ∧ b ∈ (E k).wr) ∨ b ∈ (S 0).log)
  | 0, _ => ⟨.inr, fun h => h.resolve_left (by rintro ⟨k, hk, -⟩; omega)⟩
  | j + 1, hj => by
    obtain ⟨-, -, -, -, hput, -⟩ := pa.step j _ (Array.getElem?_eq_getElem (show j < ops.size by omega))
    rw [(putSt_eq hput).2.2.1]
    show b ∈ olds cx.base (E j).wr ++ (S j).log ↔ _
    rw [List.mem_append, olds_mem, log_all pa hb (show j ≤ ops.size by omega)]
    constructor
    · rintro (⟨h, -⟩ | ⟨k, hk, h⟩ | h)
      · exact .inl ⟨j, by omega, h⟩
      · exact .inl ⟨k, by omega, h⟩
      · exact .inr h
    · rintro (⟨k, hk, h⟩ | h)
      · by_cases hkj : k = j
        · subst hkj; exact .inl ⟨h, hb⟩
        · exact .inr (.inl ⟨k, by omega, h⟩)
      · exact .inr (.inr h)
theorem HpOK.world {ρ : Va} {n : Nat} {l : List Hp} {w w' : World} (h : HpOK ρ n l w) (hw : w'.heap = w.heap) : HpOK ρ n l w' := ⟨h.srt, h.sc, fun b bl hb => (h.bk b bl hb).heap hw, h.inj, h.glob, h.big⟩
/-- A region whose order is open. -/
theorem exDraw_any (hc : CallerOK P call) {s s' : St} {ρ : Va} {a : Act} {w : World} (h : exDraw P call cx ops s = some s') (hok : Ok cx.N ρ s a w) {Q : Exit → Act → World → Prop}
    (hq : ∀ ρ' a' w', Ok cx.N ρ' s' a' w' → s'.defs = s.defs → Mv cx.base ρ s w ρ' s' w' → Q .normal a' w') : wpAny P .any ops Q ops.size (Array.replicate ops.size false) a { w with drawn := w.drawn + 1 } := by
  obtain ⟨l, hp, h⟩ := bindO_eq.1 h
  obtain ⟨d, hd, h⟩ := bindO_eq.1 h
  cases h
  obtain ⟨S, E, rfl, hSm, pa⟩ := pass_of hp hd
  let w1 : World := { w with drawn := w.drawn + 1 }
  have hok1 : Ok cx.N ρ (S 0) a w1 := ⟨hok.env, hok.hp.world rfl, hok.size⟩
  have z : Start ρ (S 0) a.tmps.size := ⟨hok.hp.srt, hok.hp.sc, hok.env.sc, fun k x hk => (Array.getElem?_eq_some_iff.1 (hok.env.env k x hk)).1, hok.hp.glob, hok.hp.big⟩
  obtain ⟨hF, -⟩ := facts_all (w0 := w1) hc pa z hok.size hok1 rfl ops.size (Nat.le_refl _)
  refine (any_ok hc hp pa z hok.size hF (fun ρ' a' w' inv => ?_) ops.size _ ρ a w1 (by simp) (by simp) (fun j o hj => ?_) (inv_start z hok1 rfl fun k => ?_))
  · have c1 := heapAt_congr (E := E) (D := fun j => decide (j < ops.size)) (D' := fun _ => true) (f := hget (S 0).heap) (j := ops.size) fun k hk => by simp [hk]
    have c2 := slotAt_congr (E := E) (D := fun j => decide (j < ops.size)) (D' := fun _ => true) (g := (S 0).env.get) (j := ops.size) fun k hk => by simp [hk]
    obtain ⟨hsS, hgS⟩ := heap_S pa (Nat.le_refl _) hF z (Nat.le_refl _)
    have hle : (S 0).n ≤ (S ops.size).n := n_le pa (Nat.le_refl _) hF (Nat.zero_le _) (Nat.le_refl _)
    have hheap : ∀ {b x}, hget (S ops.size).heap b = some x → heapAt E (fun j => decide (j < ops.size)) (hget (S 0).heap) ops.size b = some x := fun {b x} hx => by rw [c1, ← hgS b]; exact hx
    have ag0 := agr0 pa (Nat.le_refl _) hF (D := fun j => decide (j < ops.size)) (fun k hk => by simpa using hk) inv
    have hdefs : (S ops.size).defs = (S 0).defs := by
      have : ∀ j, j ≤ ops.size → (S j).defs = (S 0).defs := by
        intro j
        induction j with
        | zero => intro _; rfl
        | succ j ih =>
          intro hj
          obtain ⟨-, -, -, -, hp, -⟩ := pa.step j _ (Array.getElem?_eq_getElem (show j < ops.size by omega))
          exact ((putSt_eq hp).2.2.2.1).trans (ih (by omega))
      exact this _ (Nat.le_refl _)
    rw [← hSm] at hq
    refine hq ρ' a' w' ⟨⟨fun k x hk => inv.slot k x (by rw [c2]; exact slot_S pa (Nat.le_refl _) hk), fun k x hk => slot_sc pa (Nat.le_refl _) hF z (Nat.le_refl _) (slot_S pa (Nat.le_refl _) hk), ?_⟩, ⟨hsS, fun b x hx => ?_, fun b x hx => inv.bk b x (hheap hx), fun b b' x y hx hy => inv.inj b b' x y (hheap hx) (hheap hy), fun g hg => ?_, Nat.le_trans z.big hle⟩, by rw [inv.tmps]; exact hok.size⟩ hdefs ⟨(List.range ops.size).flatMap fun j => (E j).wr, ?_, fun b hb => ?_⟩
    · rw [hdefs]; exact inv.defs.move hle fun b hb => ⟨rfl, rfl⟩
    · rw [hgS b] at hx; exact heap_sc pa (Nat.le_refl _) hF z (Nat.le_refl _) hx
    · rw [(ag0 g (by have := z.big; omega)).1]; exact z.glob g hg
    · have hmemL : ∀ {j b}, j < ops.size → b ∈ (E j).wr → b ∈ (List.range ops.size).flatMap fun j => (E j).wr := fun {j b} hj hb => List.mem_flatMap.2 ⟨j, List.mem_range.2 hj, hb⟩
      refine ⟨hle, inv.size, fun b hb => inv.agr b fun j hj => ?_, fun b hb y hy => known_first pa (Nat.le_refl _) hF z (Nat.le_refl _) hb (hheap hy), fun r hr hno => inv.frame r hr fun j b hj hb => hno b (hmemL (by simpa using hj) hb), fun b hb hbn => ?_, fun b hb y hy => ?_, ⟨inv.side.os, inv.side.tape, inv.side.output⟩⟩
      · have hj : j < ops.size := by simpa using hj
        obtain ⟨e1, e2⟩ := pa.bounds hj
        have h1 := n_le pa (Nat.le_refl _) hF (Nat.zero_le j) (Nat.le_of_lt hj)
        have h2 := n_le pa (Nat.le_refl _) hF (show j + 1 ≤ ops.size from hj) (Nat.le_refl _)
        omega
      · obtain ⟨j, hj, hbw⟩ := List.mem_flatMap.1 hb
        have hj := List.mem_range.1 hj
        obtain ⟨-, y, hy⟩ := (hF j hj).wr b hbw
        obtain ⟨-, -, -, -, -, hsub, -⟩ := pa.step j _ (Array.getElem?_eq_getElem hj)
        have h1 := hsub b y hy
        rw [(heap_S pa (Nat.le_refl _) hF z (Nat.le_of_lt hj)).2 b] at h1
        exact known_first pa (Nat.le_refl _) hF z (Nat.le_of_lt hj) hbn h1
      · rcases inv.new b hb y (hheap hy) with h | ⟨j, b', hj, hb', hlt, he⟩
        · exact .inl h
        · exact .inr ⟨b', hmemL (by simpa using hj) hb', hlt, he⟩
    · rw [log_all pa hb (Nat.le_refl _), List.mem_flatMap]
      constructor
      · rintro (⟨k, hk, h⟩ | h)
        · exact .inl ⟨k, List.mem_range.2 hk, h⟩
        · exact .inr h
      · rintro (⟨k, hk, h⟩ | h)
        · exact .inl ⟨k, List.mem_range.1 hk, h⟩
        · exact .inr h
  · have : (Array.replicate ops.size false).getD j false = false := by
      rw [Array.getD_eq_getD_getElem?]
      by_cases hj' : j < ops.size
      · simp [hj']
      · simp [hj']
    rw [this] at hj
    cases hj
  · show (Array.replicate ops.size false).getD k false = false
    rw [Array.getD_eq_getD_getElem?]
    by_cases hj' : k < ops.size
    · simp [hj']
    · simp [hj']
theorem exDraw_ok (hc : CallerOK P call) (hm : P.follows .mixedOrders = true) {id : Nat} {s s' : St} {ρ : Va} {a : Act} {w : World} (h : exDraw P call cx ops s = some s') (hok : Ok cx.N ρ s a w) {Q : Exit → Act → World → Prop}
    (hq : ∀ ρ' a' w', Ok cx.N ρ' s' a' w' → s'.defs = s.defs → Mv cx.base ρ s w ρ' s' w' → Q .normal a' w') : (Code.region id ops true).wp P Q a w := wp_region_any hm (exDraw_any hc h hok hq)
end
end Go.Ex
