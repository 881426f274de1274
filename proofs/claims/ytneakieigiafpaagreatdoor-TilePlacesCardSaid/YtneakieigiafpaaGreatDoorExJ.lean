/- Regions whose order is open: what comes before an operation; what the operations that were done make of memory and of the slots. -/
import Derived.Test.YtneakieigiafpaaGreatDoorExI
namespace Go.Ex
open Go

/-! ### What comes before an operation -/
theorem hasBit_eq (m i : Nat) : hasBit m i = m.testBit i := by
  have e : hasBit m i = ifB (Nat.beq ((m >>> i) % 2) 0) false true := rfl
  rw [e, Nat.testBit_eq_decide_div_mod_eq, Nat.shiftRight_eq_div_pow]
  have := Nat.mod_lt (m / 2 ^ i) (y := 2) (by decide)
  rcases beq_dec (m / 2 ^ i % 2) 0 with ⟨h1, h2⟩ | ⟨h1, h2⟩
  · rw [h1, ifB_true, h2]; rfl
  · rw [h1, ifB_false]; symm; exact decide_eq_true (by omega)
def oneB (look : Nat → Nat) (o : Oper) : Nat := o.after.foldl (fun s e => if Region.binds .any e then s ||| 2 ^ e.on ||| look e.on else s) 0
theorem oneB_bit {look : Nat → Nat} {o : Oper} {k : Nat} (h : (oneB look o).testBit k = true) : ∃ e ∈ o.after, Region.binds .any e = true ∧ (k = e.on ∨ (look e.on).testBit k = true) := by
  unfold oneB at h
  rw [← Array.foldl_toList] at h
  have : ∀ (l : List Edge) (s : Nat), (l.foldl (fun s e => if Region.binds .any e then s ||| 2 ^ e.on ||| look e.on else s) s).testBit k = true →
      s.testBit k = true ∨ ∃ e ∈ l, Region.binds .any e = true ∧ (k = e.on ∨ (look e.on).testBit k = true) := by
    intro l
    induction l with
    | nil => intro s h; exact .inl h
    | cons e l ih =>
      intro s h
      rcases ih _ h with h | ⟨e', h1, h2⟩
      · dsimp only at h
        by_cases hb : Region.binds .any e = true
        · rw [if_pos hb] at h
          simp only [Nat.testBit_or, Bool.or_eq_true, Nat.testBit_two_pow] at h
          rcases h with (h | h) | h
          · exact .inl h
          · exact .inr ⟨e, List.mem_cons_self, hb, .inl (of_decide_eq_true h).symm⟩
          · exact .inr ⟨e, List.mem_cons_self, hb, .inr h⟩
        · rw [if_neg hb] at h; exact .inl h
      · exact .inr ⟨e', List.mem_cons_of_mem _ h1, h2⟩
  rcases this _ 0 h with h | ⟨e, h1, h2⟩
  · simp at h
  · exact ⟨e, by simpa using h1, h2⟩
def pushB (acc : Array Nat) (o : Oper) : Array Nat := acc.push (oneB (fun i => acc.getD i 0) o)
theorem before_fold : ∀ (l : List Oper) (acc : Array Nat), (∀ (i v : Nat), acc[i]? = some v → (l.foldl pushB acc)[i]? = some v) ∧ (l.foldl pushB acc).size = acc.size + l.length ∧
    ∀ (t : Nat) (o : Oper), l[t]? = some o → ∃ acc' : Array Nat, (l.foldl pushB acc)[acc.size + t]? = some (oneB (fun i => acc'.getD i 0) o) ∧ acc'.size = acc.size + t ∧ ∀ (i v : Nat), acc'[i]? = some v → (l.foldl pushB acc)[i]? = some v
  | [], acc => ⟨fun _ _ h => h, rfl, fun t o h => by simp at h⟩
  | o :: l, acc => by
    obtain ⟨h1, h2, h3⟩ := before_fold l (pushB acc o)
    have hs : (pushB acc o).size = acc.size + 1 := by simp [pushB]
    have hp : ∀ (i v : Nat), acc[i]? = some v → (pushB acc o)[i]? = some v := fun i v h => by
      have hlt : i < acc.size := (Array.getElem?_eq_some_iff.1 h).1
      unfold pushB
      rw [Array.getElem?_push_lt hlt]
      rw [← h]
      simp [hlt]
    simp only [List.foldl_cons]
    refine ⟨fun i v h => h1 i v (hp i v h), by rw [h2, hs]; simp; omega, fun t o' ht => ?_⟩
    cases t with
    | zero =>
      cases ht
      refine ⟨acc, h1 _ _ ?_, rfl, fun i v h => h1 i v (hp i v h)⟩
      show (pushB acc o)[acc.size + 0]? = _
      simp [pushB]
    | succ t =>
      obtain ⟨acc', e1, e2, e3⟩ := h3 t o' (by simpa using ht)
      refine ⟨acc', ?_, by omega, e3⟩
      have : acc.size + (t + 1) = (pushB acc o).size + t := by omega
      rw [this]
      exact e1
theorem before_eq (ops : Array Oper) : Region.before ops = ops.toList.foldl pushB #[] := by
  unfold Region.before
  rw [← Array.foldl_toList]
  rfl
theorem before_size (ops : Array Oper) : (Region.before ops).size = ops.size := by
  rw [before_eq, (before_fold ops.toList #[]).2.1]
  simp
theorem before_spec {ops : Array Oper} {j b k : Nat} {o : Oper} (ho : ops[j]? = some o) (hb : (Region.before ops)[j]? = some b) (hk : b.testBit k = true) :
    ∃ e ∈ o.after, Region.binds .any e = true ∧ (k = e.on ∨ ∃ b', (Region.before ops)[e.on]? = some b' ∧ e.on < j ∧ b'.testBit k = true) := by
  obtain ⟨acc', e1, e2, e3⟩ := (before_fold ops.toList #[]).2.2 j o (by simpa using ho)
  rw [← before_eq] at e1 e3
  simp only [Array.size_empty, Nat.zero_add] at e1 e2
  rw [hb] at e1
  cases e1
  obtain ⟨e, h1, h2, h3⟩ := oneB_bit hk
  refine ⟨e, h1, h2, ?_⟩
  rcases h3 with h3 | h3
  · exact .inl h3
  · cases ha : acc'[e.on]? with
    | none => simp [Array.getD_eq_getD_getElem?, ha] at h3
    | some v =>
      simp only [Array.getD_eq_getD_getElem?, ha, Option.getD_some] at h3
      exact .inr ⟨v, e3 _ _ ha, by rw [← e2]; exact (Array.getElem?_eq_some_iff.1 ha).1, h3⟩
/-- Where the edges lead to what was done, so does what comes before. -/
theorem before_closed {ops : Array Oper} {D : Nat → Bool} (hD : ∀ j o, D j = true → ops[j]? = some o → ∀ e ∈ o.after, Region.binds .any e = true → D e.on = true) :
    ∀ (j : Nat) (o : Oper) (b : Nat), ops[j]? = some o → (∀ e ∈ o.after, Region.binds .any e = true → D e.on = true) → (Region.before ops)[j]? = some b → ∀ k, b.testBit k = true → D k = true := by
  intro j
  induction j using Nat.strongRecOn with
  | ind j ih =>
    intro o b ho he hb k hk
    obtain ⟨e, h1, h2, h3⟩ := before_spec ho hb hk
    rcases h3 with rfl | ⟨b', hb', hlt, hk'⟩
    · exact he e h1 h2
    · have hsz : e.on < ops.size := by
        have := (Array.getElem?_eq_some_iff.1 hb').1
        rwa [before_size] at this
      exact ih e.on hlt ops[e.on] b' (Array.getElem?_eq_getElem hsz) (hD e.on _ (he e h1 h2) (Array.getElem?_eq_getElem hsz)) hb' k hk'

/-! ### What a value hangs on -/
/-- It hangs on no name of [lo, hi). -/
def Av (lo hi : Nat) (x : SV) : Prop := ∀ ρ ρ' : Va, (∀ b, b < lo ∨ hi ≤ b → ρ'.blk b = ρ.blk b ∧ ρ'.cap b = ρ.cap b) → x.conc ρ' = x.conc ρ
theorem Sc.av {n lo hi : Nat} {x : SV} (h : Sc n x) (hle : n ≤ lo) : Av lo hi x := fun ρ ρ' ha => h ρ ρ' fun b hb => ha b (.inl (by omega))
theorem out_of {lo hi b : Nat} (h : ifB (Nat.ble lo b) (Nat.ble hi b) true = true) : b < lo ∨ hi ≤ b := by
  rcases ble_dec lo b with ⟨e, hle⟩ | ⟨e, hlt⟩
  · rw [e, ifB_true] at h; exact .inr (Nat.le_of_ble_eq_true h)
  · exact .inl hlt
theorem ifB_and {a b : Bool} (h : ifB a b false = true) : a = true ∧ b = true := by cases a <;> cases b <;> simp_all [ifB]
mutual
theorem avoids_av {lo hi : Nat} : ∀ x : SV, x.avoids lo hi = true → Av lo hi x
  | .v y, _ => fun ρ ρ' _ => by rw [conc_v, conc_v]
  | .ptr b off, h => fun ρ ρ' ha => by
    have := ha b (out_of (by simpa [SV.avoids] using h))
    rw [conc_ptr, conc_ptr, this.1]
  | .sl b off n (.ex c), h => fun ρ ρ' ha => by
    have := ha b (out_of (by simpa [SV.avoids] using h))
    rw [conc_ex, conc_ex, this.1]
  | .sl b off n (.un c), h => fun ρ ρ' ha => by
    have := ha b (out_of (by simpa [SV.avoids] using h))
    rw [conc_un, conc_un, this.1, this.2]
  | .fn f a c, h => fun ρ ρ' ha => by
    obtain ⟨h1, h2⟩ := ifB_and (show ifB (avoidAll lo hi a) (avoidAll lo hi c) false = true by simpa [SV.avoids] using h)
    rw [conc_fn, conc_fn, avoidAll_map a h1 ρ ρ' ha, avoidAll_map c h2 ρ ρ' ha]
  | .agg cs, h => fun ρ ρ' ha => by
    rw [conc_agg, conc_agg, avoidAll_map cs (by simpa [SV.avoids] using h) ρ ρ' ha]
  | .tup cs, h => fun ρ ρ' ha => by
    rw [conc_tup, conc_tup, avoidAll_map cs (by simpa [SV.avoids] using h) ρ ρ' ha]
theorem avoidAll_map {lo hi : Nat} : ∀ l : List SV, avoidAll lo hi l = true → ∀ ρ ρ' : Va, (∀ b, b < lo ∨ hi ≤ b → ρ'.blk b = ρ.blk b ∧ ρ'.cap b = ρ.cap b) → l.map (SV.conc ρ') = l.map (SV.conc ρ)
  | [], _, _, _, _ => rfl
  | x :: l, h, ρ, ρ', ha => by
    obtain ⟨h1, h2⟩ := ifB_and (show ifB (x.avoids lo hi) (avoidAll lo hi l) false = true by simpa [avoidAll] using h)
    rw [List.map_cons, List.map_cons, avoids_av x h1 ρ ρ' ha, avoidAll_map l h2 ρ ρ' ha]
end
theorem avoidAll_av {lo hi : Nat} : ∀ l : List SV, avoidAll lo hi l = true → ∀ x ∈ l, Av lo hi x
  | x :: l, h, y, hy => by
    obtain ⟨h1, h2⟩ := ifB_and (show ifB (x.avoids lo hi) (avoidAll lo hi l) false = true by simpa [avoidAll] using h)
    rcases List.mem_cons.1 hy with rfl | hy
    · exact avoids_av _ h1
    · exact avoidAll_av l h2 y hy

/-! ### Memory behind an operation -/
theorem newer_srt : ∀ {l : List Hp} {lo n : Nat}, Srt l n → ∀ b, hget (newer lo l) b = if lo ≤ b then hget l b else none
  | [], lo, n, _, b => by simp [newer, hget]
  | ⟨i, x⟩ :: l, lo, n, hs, b => by
    show hget (ifB (Nat.ble lo i) (⟨i, x⟩ :: newer lo l) []) b = _
    rcases ble_dec lo i with ⟨e, hle⟩ | ⟨e, hlt⟩
    · rw [e, ifB_true, hget_cons, hget_cons, newer_srt hs.2]
      by_cases hb : i = b
      · subst hb; rw [if_pos rfl, if_pos hle]
        rw [if_pos rfl]
      · rw [if_neg hb, if_neg hb]
    · rw [e, ifB_false]
      split
      · rename_i hb
        cases hx : hget (⟨i, x⟩ :: l) b with
        | none => rfl
        | some y =>
          rw [hget_cons] at hx
          split at hx
          · rename_i h; omega
          · have := Srt.lt hs.2 hx
            dsimp only at this
            omega
      · rfl
theorem hget_append (l m : List Hp) (b : Nat) : hget (l ++ m) b = (hget l b).or (hget m b) := by
  induction l with
  | nil => rfl
  | cons h l ih =>
    obtain ⟨i, x⟩ := h
    rw [List.cons_append, hget_cons, hget_cons, ih]
    split <;> rfl
theorem hdel_eq : ∀ {l : List Hp} {n : Nat} (k : Nat), Srt l n → ∀ j, hget (hdel l k) j = if j = k then none else hget l j
  | [], _, k, _, j => by simp [hdel, hget]
  | ⟨i, b⟩ :: l, n, k, hs, j => by
    show hget (ifB (Nat.beq i k) l (⟨i, b⟩ :: hdel l k)) j = _
    rcases beq_dec i k with ⟨e, rfl⟩ | ⟨e, hne⟩
    · rw [e, ifB_true, hget_cons]
      by_cases hj : j = i
      · subst hj
        rw [if_pos rfl]
        cases hx : hget l j with
        | none => rfl
        | some y => have := Srt.lt hs.2 hx; dsimp only at this; omega
      · rw [if_neg hj, if_neg (Ne.symm hj)]
    · rw [e, ifB_false, hget_cons, hget_cons, hdel_eq k hs.2]
      by_cases hj : i = j
      · subst hj; rw [if_pos rfl, if_neg hne, if_pos rfl]
      · rw [if_neg hj, if_neg hj]
theorem update_srt (v : List Hp) {n : Nat} : ∀ (L : List Nat) {l : List Hp}, Srt l n → Srt (update v L l) n
  | [], _, h => h
  | b :: L, l, h => by
    show Srt (Option.rec (hdel (update v L l) b) (fun bl => hset (update v L l) b bl) (hget v b)) n
    cases hget v b with
    | none => exact hdel_srt b (update_srt v L h)
    | some x => exact hset_srt b x (update_srt v L h)
theorem update_get (v : List Hp) {n : Nat} : ∀ (L : List Nat) {l : List Hp}, Srt l n → ∀ b, hget (update v L l) b = if b ∈ L then (match hget v b with | some x => (hget l b).map fun _ => x | none => none) else hget l b
  | [], _, _, _ => by simp [update]
  | c :: L, l, h, b => by
    have e : update v (c :: L) l = Option.rec (hdel (update v L l) c) (fun bl => hset (update v L l) c bl) (hget v c) := rfl
    rw [e]
    have hs := update_srt v L h
    have ih := update_get v L h b
    cases hc : hget v c with
    | none =>
      show hget (hdel (update v L l) c) b = _
      rw [hdel_eq c hs b, ih]
      by_cases hb : b = c
      · subst hb; rw [if_pos rfl, if_pos List.mem_cons_self, hc]
      · rw [if_neg hb]
        by_cases hm : b ∈ L
        · rw [if_pos hm, if_pos (List.mem_cons_of_mem _ hm)]
        · rw [if_neg hm, if_neg (by simp [hb, hm])]
    | some x =>
      show hget (hset (update v L l) c x) b = _
      rw [hset_get]
      by_cases hb : b = c
      · subst hb
        rw [if_pos rfl, if_pos List.mem_cons_self, ih, hc]
        by_cases hm : b ∈ L
        · rw [if_pos hm]; cases hget l b <;> rfl
        · rw [if_neg hm]
      · rw [if_neg hb, ih]
        by_cases hm : b ∈ L
        · rw [if_pos hm, if_pos (List.mem_cons_of_mem _ hm)]
        · rw [if_neg hm, if_neg (by simp [hb, hm])]
/-- What an operation did. -/
structure Ef where
  dst : Option Tmp
  val : SV
  lo : Nat
  hi : Nat
  wr : List Nat
  h1 : List Hp
  view : List Hp
noncomputable def Ef.app (e : Ef) (f : Nat → Option B) (b : Nat) : Option B := if e.lo ≤ b then hget e.h1 b else if b ∈ e.wr then (match hget e.h1 b with | some x => (f b).map fun _ => x | none => none) else f b
theorem app_get (e : Ef) {H : List Hp} (hs : Srt e.h1 e.hi) (hH : Srt H e.lo) (b : Nat) : hget (newer e.lo e.h1 ++ update e.h1 e.wr H) b = e.app (hget H) b := by
  rw [hget_append, newer_srt hs, update_get e.h1 e.wr hH]
  unfold Ef.app
  by_cases hb : e.lo ≤ b
  · rw [if_pos hb, if_pos hb]
    have hn : hget H b = none := by
      cases hx : hget H b with
      | none => rfl
      | some y => have := Srt.lt hH hx; omega
    rw [hn]
    cases hget e.h1 b <;> simp
  · rw [if_neg hb, if_neg hb]
    rfl
theorem newer_rest {l : List Hp} {lo n : Nat} (h : Srt l n) : Srt (newer lo l) n := by
  induction l generalizing n with
  | nil => trivial
  | cons a l ih =>
    obtain ⟨i, x⟩ := a
    show Srt (ifB (Nat.ble lo i) (⟨i, x⟩ :: newer lo l) []) n
    rcases ble_dec lo i with ⟨e, hle⟩ | ⟨e, hlt⟩
    · rw [e]; exact ⟨h.1, ih h.2⟩
    · rw [e]; trivial
theorem srt_append : ∀ {l m : List Hp} {lo n : Nat}, Srt l n → Srt m lo → lo ≤ n → (∀ h ∈ l, lo ≤ h.id) → Srt (l ++ m) n
  | [], _, _, _, _, hm, hle, _ => hm.mono hle
  | a :: _, _, _, _, hl, hm, _, hi => ⟨hl.1, srt_append hl.2 hm (hi a List.mem_cons_self) fun h hh => hi h (List.mem_cons_of_mem _ hh)⟩
theorem newer_ids {l : List Hp} {lo : Nat} : ∀ h ∈ newer lo l, lo ≤ h.id := by
  induction l with
  | nil => intro h hh; cases hh
  | cons a l ih =>
    obtain ⟨i, x⟩ := a
    intro h hh
    replace hh : h ∈ ifB (Nat.ble lo i) (⟨i, x⟩ :: newer lo l) [] := hh
    rcases ble_dec lo i with ⟨e, hle⟩ | ⟨e, hlt⟩
    · rw [e, ifB_true] at hh
      rcases List.mem_cons.1 hh with rfl | hh
      · exact hle
      · exact ih h hh
    · rw [e] at hh; cases hh
theorem app_srt (e : Ef) {H : List Hp} (hs : Srt e.h1 e.hi) (hH : Srt H e.lo) (hle : e.lo ≤ e.hi) : Srt (newer e.lo e.h1 ++ update e.h1 e.wr H) e.hi :=
  srt_append (newer_rest hs) (update_srt _ _ hH) hle newer_ids
theorem hget_mem {l : List Hp} {b : Nat} {x : B} (h : hget l b = some x) : (⟨b, x⟩ : Hp) ∈ l := by
  induction l with
  | nil => cases h
  | cons a l ih =>
    obtain ⟨i, y⟩ := a
    rw [hget_cons] at h
    split at h
    · rename_i e; subst e; cases h; exact List.mem_cons_self
    · exact List.mem_cons_of_mem _ (ih h)

/-! ### What those that were done make of memory, of the slots -/
noncomputable def heapAt (E : Nat → Ef) (D : Nat → Bool) (f : Nat → Option B) : Nat → Nat → Option B
  | 0 => f
  | j + 1 => if D j = true then (E j).app (heapAt E D f j) else heapAt E D f j
noncomputable def slotAt (E : Nat → Ef) (D : Nat → Bool) (g : Nat → Option SV) : Nat → Nat → Option SV
  | 0 => g
  | j + 1 => fun k => if D j = true ∧ (E j).dst = some k then some (E j).val else slotAt E D g j k
theorem heapAt_congr {E : Nat → Ef} {D D' : Nat → Bool} {f : Nat → Option B} : ∀ {j : Nat}, (∀ k, k < j → D k = D' k) → heapAt E D f j = heapAt E D' f j
  | 0, _ => rfl
  | j + 1, h => by
    unfold heapAt
    rw [h j (Nat.lt_succ_self _), heapAt_congr fun k hk => h k (by omega)]
theorem slotAt_congr {E : Nat → Ef} {D D' : Nat → Bool} {g : Nat → Option SV} : ∀ {j : Nat}, (∀ k, k < j → D k = D' k) → slotAt E D g j = slotAt E D' g j
  | 0, _ => rfl
  | j + 1, h => by
    unfold slotAt
    rw [h j (Nat.lt_succ_self _), slotAt_congr fun k hk => h k (by omega)]
def upd (D : Nat → Bool) (i : Nat) (j : Nat) : Bool := if j = i then true else D j
end Go.Ex
