/- The runner's operations that lay or write memory: they do what the model's do. -/
import Derived.Test.YtneakieigiafpaaGreatDoorExE
import Derived.Laws.IdiomCopy
import Derived.Laws.IdiomStrings
import Derived.Laws.MakeOwn
import Derived.Laws.Append
namespace Go.Ex
open Go
variable {P : Program} {cx : Cx} {o : Oper} {s s' : St} {v : SV} {ρ : Va} {a : Act} {w : World}

theorem BkOK.move {ρ ρ' : Va} {w w' : World} {b n : Nat} {bl : B} (h : BkOK ρ w b bl) (hb : b < n) (hs : ∀ x ∈ bl.cells, Sc n x) (ha : Agr n ρ ρ') (hw : w'.heap[ρ.blk b]? = w.heap[ρ.blk b]?) : BkOK ρ' w' b bl := by
  obtain ⟨arr, e, fz, h1, h2, h3, h4⟩ := h
  refine ⟨arr, e, fz, by rw [(ha b hb).1, hw, h1], fun i x hx => ?_, h3, fun hz => by rw [(ha b hb).2]; exact h4 hz⟩
  rw [hs x (List.mem_of_getElem? hx) ρ ρ' ha]
  exact h2 i x hx
theorem BkOK.lt {ρ : Va} {w : World} {b : Nat} {bl : B} (h : BkOK ρ w b bl) : ρ.blk b < w.heap.size := by
  obtain ⟨arr, e, fz, h1, -, -, -⟩ := h
  exact (Array.getElem?_eq_some_iff.1 h1).1
def Va.put (ρ : Va) (n blk cap : Nat) : Va := ⟨fun b => if b = n then blk else ρ.blk b, fun b => if b = n then cap else ρ.cap b⟩
theorem Va.put_agr (ρ : Va) (n blk cap : Nat) : Agr n ρ (ρ.put n blk cap) := fun b hb => ⟨if_neg (by omega), if_neg (by omega)⟩
/-- What was there stays. -/
structure Old (w w' : World) : Prop where
  blk : ∀ r, r < w.heap.size → w'.heap[r]? = w.heap[r]?
  side : Side w w'
/-- New memory. -/
theorem new_step {n : Nat} {H : List Hp} (hh : HpOK ρ n H w) {w' : World} {cs : List SV} {sz cap : Nat} (hs : ∀ x ∈ cs, Sc n x) (hold : Old w w') {arr : Array Value} {e : TypeId} {fz : Nat × Nat}
    (hnew : w'.heap[w.heap.size]? = some (.cells arr e fz)) (hcs : ∀ (i : Nat) (x : SV), cs[i]? = some x → arr[i]? = some (x.conc ρ)) (hfz : Lo fz arr.size) (hsz : sz ≠ 0 → arr.size = sz * cap) :
    HpOK (ρ.put n w.heap.size cap) (n + 1) (⟨n, ⟨cs, sz⟩⟩ :: H) w' ∧ Ext [] ρ n H w (ρ.put n w.heap.size cap) (n + 1) (⟨n, ⟨cs, sz⟩⟩ :: H) w' := by
  have ha := Va.put_agr ρ n w.heap.size cap
  have hlt : w.heap.size < w'.heap.size := (Array.getElem?_eq_some_iff.1 hnew).1
  have oldlt : ∀ b x, hget H b = some x → b < n := fun b x hx => hh.srt.lt hx
  have hblk : (ρ.put n w.heap.size cap).blk n = w.heap.size := if_pos rfl
  have hcap : (ρ.put n w.heap.size cap).cap n = cap := if_pos rfl
  constructor
  · refine ⟨⟨Nat.lt_succ_self n, hh.srt⟩, fun b bl hb => ?_, fun b bl hb => ?_, fun b b' x y hx hy hbb => ?_, fun g hg => ?_, Nat.le_succ_of_le hh.big⟩
    · rw [hget_cons] at hb
      split at hb
      · cases hb; exact fun x hx => (hs x hx).mono (Nat.le_succ n)
      · exact fun x hx => (hh.sc b bl hb x hx).mono (Nat.le_succ n)
    · rw [hget_cons] at hb
      split at hb
      · rename_i hbn
        subst hbn
        cases hb
        refine ⟨arr, e, fz, by rw [hblk]; exact hnew, fun i x hx => ?_, hfz, fun hz => by rw [hcap]; exact hsz hz⟩
        rw [hs x (List.mem_of_getElem? hx) ρ _ ha]
        exact hcs i x hx
      · have hk := hh.bk b bl hb
        exact hk.move (oldlt b bl hb) (hh.sc b bl hb) ha (hold.blk _ hk.lt)
    · have key : ∀ c z, hget H c = some z → (ρ.put n w.heap.size cap).blk c ≠ w.heap.size := fun c z hc => by
        rw [(ha c (oldlt c z hc)).1]
        exact Nat.ne_of_lt (hh.bk c z hc).lt
      rw [hget_cons] at hx hy
      split at hx <;> split at hy
      · omega
      · rename_i h1 h2
        subst h1
        rw [hblk] at hbb
        exact absurd hbb.symm (key _ _ hy)
      · rename_i h1 h2
        subst h2
        rw [hblk] at hbb
        exact absurd hbb (key _ _ hx)
      · rw [(ha b (oldlt b x hx)).1, (ha b' (oldlt b' y hy)).1] at hbb
        exact hh.inj b b' x y hx hy hbb
    · rw [(ha g (Nat.lt_of_lt_of_le hg hh.big)).1]; exact hh.glob g hg
  · refine ⟨Nat.le_succ n, Nat.le_of_lt hlt, fun b hb => ⟨if_neg (by omega), if_neg (by omega)⟩, fun b hb y hy => ?_, fun r hr _ => hold.blk r hr, fun b hb => (by cases hb), fun b hb y hy => ?_, hold.side⟩
    · rw [hget_cons, if_neg (by omega)] at hy
      exact ⟨y, hy⟩
    · rw [hget_cons] at hy
      split at hy
      · rename_i hbn
        subst hbn
        exact .inl (by rw [hblk]; exact Nat.le_refl _)
      · exact absurd (oldlt b y hy) (by omega)
/-- Cells of a known block written over. -/
theorem write_step {n b : Nat} {H : List Hp} (hh : HpOK ρ n H w) {bl : B} (hb : hget H b = some bl) {cs : List SV} (hl : cs.length = bl.cells.length) (hs : ∀ x ∈ cs, Sc n x) {w' : World} (hsz : w'.heap.size = w.heap.size ∧ Side w w')
    (hr : ∀ r, r ≠ ρ.blk b → w'.heap[r]? = w.heap[r]?) (hblk : ∀ arr e fz, w.heap[ρ.blk b]? = some (.cells arr e fz) → Lo fz arr.size → (∀ (i : Nat) (x : SV), bl.cells[i]? = some x → arr[i]? = some (x.conc ρ)) → ∃ arr' fz', w'.heap[ρ.blk b]? = some (.cells arr' e fz') ∧ Lo fz' arr.size ∧ arr'.size = arr.size ∧ ∀ (i : Nat) (x : SV), cs[i]? = some x → arr'[i]? = some (x.conc ρ)) :
    HpOK ρ n (hset H b ⟨cs, bl.sz⟩) w' ∧ Ext [b] ρ n H w ρ n (hset H b ⟨cs, bl.sz⟩) w' := by
  obtain ⟨hsz, hside⟩ := hsz
  have hg : ∀ c z, hget (hset H b ⟨cs, bl.sz⟩) c = some z → (c = b ∧ z = ⟨cs, bl.sz⟩) ∨ (c ≠ b ∧ hget H c = some z) := fun c z hc => by
    rw [hset_get] at hc
    split at hc
    · rename_i h
      subst h
      rw [hb] at hc
      cases hc
      exact .inl ⟨rfl, rfl⟩
    · rename_i h; exact .inr ⟨h, hc⟩
  have vis : ∀ c z, hget (hset H b ⟨cs, bl.sz⟩) c = some z → ∃ y, hget H c = some y := fun c z hc => by
    rcases hg c z hc with ⟨rfl, -⟩ | ⟨-, h⟩
    · exact ⟨bl, hb⟩
    · exact ⟨z, h⟩
  constructor
  · refine ⟨hset_srt b _ hh.srt, fun c z hc => ?_, fun c z hc => ?_, fun c c' x y hx hy hcc => ?_, hh.glob, hh.big⟩
    · rcases hg c z hc with ⟨rfl, rfl⟩ | ⟨-, h⟩
      · exact hs
      · exact hh.sc c z h
    · rcases hg c z hc with ⟨rfl, rfl⟩ | ⟨hne, h⟩
      · obtain ⟨arr, e, fz, h1, h2, h3, h4⟩ := hh.bk c bl hb
        obtain ⟨arr', fz', g1, g4, g2, g3⟩ := hblk arr e fz h1 h3 h2
        exact ⟨arr', e, fz', g1, g3, by rw [g2]; exact g4, fun hz => g2.trans (h4 hz)⟩
      · exact (hh.bk c z h).move (hh.srt.lt h) (hh.sc c z h) (fun _ _ => ⟨rfl, rfl⟩) (hr _ fun he => hne (hh.inj c b z bl h hb he))
    · obtain ⟨x', hx'⟩ := vis c x hx
      obtain ⟨y', hy'⟩ := vis c' y hy
      exact hh.inj c c' x' y' hx' hy' hcc
  · refine ⟨Nat.le_refl _, by omega, fun _ _ => ⟨rfl, rfl⟩, fun c _ y hy => vis c y hy, fun r hr' hno => hr r fun he => hno b List.mem_cons_self (hh.srt.lt hb) he.symm, fun c hc _ => ?_, fun c hc y hy => ?_, hside⟩
    · rw [List.mem_singleton] at hc
      subst hc
      exact ⟨bl, hb⟩
    · obtain ⟨y', hy'⟩ := vis c y hy
      exact absurd (hh.srt.lt hy') (by omega)
theorem setCells_heap (g : Nat) : ∀ (vs : List Value) (o : Nat) (w : World), ((w.setCells g o vs).heap.size = w.heap.size ∧ Side w (w.setCells g o vs)) ∧ (∀ r, r ≠ g → (w.setCells g o vs).heap[r]? = w.heap[r]?) ∧
    ∀ cur e fz, w.heap[g]? = some (.cells cur e fz) → o + vs.length ≤ cur.size → ∃ arr, (w.setCells g o vs).heap[g]? = some (.cells arr e fz) ∧ arr.size = cur.size ∧ ∀ i : Nat, arr[i]? = if o ≤ i ∧ i < o + vs.length then vs[i - o]? else cur[i]?
  | [], o, w => ⟨⟨rfl, Side.refl w⟩, fun _ _ => rfl, fun cur e fz h _ => ⟨cur, h, rfl, fun i => by simp; intro h1 h2; omega⟩⟩
  | v :: vs, o, w => by
    obtain ⟨h1, h2, h3⟩ := setCells_heap g vs (o + 1) (w.setCell ⟨g, o, none⟩ v)
    refine ⟨⟨h1.1.trans (by simp [World.setCell]), Side.trans (show Side w (w.setCell ⟨g, o, none⟩ v) from ⟨rfl, rfl, rfl⟩) h1.2⟩, fun r hr => (h2 r hr).trans ?_, fun cur e fz hc hl => ?_⟩
    · simp [World.setCell, Array.getElem?_modify, Ne.symm hr]
    · simp only [List.length_cons] at hl
      obtain ⟨arr, g1, g2, g3⟩ := h3 (cur.setIfInBounds o v) e fz (by simp [World.setCell, Array.getElem?_modify, hc]) (by simp; omega)
      refine ⟨arr, g1, g2.trans (by simp), fun i => ?_⟩
      rw [g3 i]
      by_cases hi : i = o
      · subst hi
        rw [if_neg (by omega), if_pos (by simp)]
        have : i < cur.size := by omega
        simp [this]
      · by_cases hc : o + 1 ≤ i ∧ i < o + 1 + vs.length
        · rw [if_pos hc, if_pos (by simp only [List.length_cons]; omega)]
          have : i - o = (i - (o + 1)) + 1 := by omega
          rw [this, List.getElem?_cons_succ]
        · rw [if_neg hc, if_neg (by simp only [List.length_cons]; omega)]
          simp [Array.getElem?_setIfInBounds_ne (Ne.symm hi)]
theorem isCell_one {x : SV} (h : x.isCell = true) (ρ : Va) : (x.conc ρ).oneCell' = true := by
  cases x with
  | v y => rw [conc_v]; cases y <;> first | rfl | (cases h)
  | ptr b off => rw [conc_ptr]; rfl
  | sl b off n c => cases c <;> simp only [conc_ex, conc_un] <;> rfl
  | fn f a c => rw [conc_fn]; rfl
  | agg cs => cases h
  | tup cs => cases h
theorem olds_one (n b : Nat) : olds n [b] = ifB (Nat.ble (Nat.succ b) n) [b] [] := rfl
theorem logged_eq (cx : Cx) (b : Nat) (l : List Nat) : logged cx b l = olds cx.base [b] ++ l := by
  rw [olds_one]
  unfold logged
  cases Nat.ble (Nat.succ b) cx.base <;> rfl
/-- What a piece that gives a value and may touch memory says. -/
structure Eff (cx : Cx) (s : St) (v : SV) (s' : St) (ρ : Va) (w : World) (ρ' : Va) (w' : World) : Prop where
  ext : ∃ L, Ext L ρ s.n s.heap w ρ' s'.n s'.heap w' ∧ s'.log = olds cx.base L ++ s.log
  hp : HpOK ρ' s'.n s'.heap w'
  env : s'.env = s.env
  sc : Sc s'.n v
  defs : s'.defs = s.defs
theorem OpOK.eff (h : ∀ ρ a w, EnvOK ρ s a → HpOK ρ s.n s.heap w → ∃ ρ' w', ((execOp a.eval o).run P w = .ok (.value (v.conc ρ')) w' ∨ ((execOp a.eval o).run P w = .ok .skip w' ∧ v = .v undef)) ∧ Eff cx s v s' ρ w ρ' w') : OpOK P cx o s v s' := by
  intro ρ a w he hh next Q hk
  obtain ⟨ρ', w', h1, e⟩ := h ρ a w he hh
  obtain ⟨L, hx, hlog⟩ := e.ext
  have hd : DefOK ρ' s'.n s'.defs a.defers := by rw [e.defs]; exact he.defs.move hx.le hx.ag
  have := hk ρ' w' a.defers L hx e.hp hlog e.env e.sc hd
  unfold Oper.wp
  rcases h1 with h1 | ⟨h1, rfl⟩
  · rw [h1, Oper.upon_value]; exact this
  · rw [h1, Oper.upon_skip]; rw [conc_v] at this; exact this
theorem storeC_ok {b off : Nat} {vs : List SV} (hh : HpOK ρ s.n s.heap w) (hv : ∀ x ∈ vs, Sc s.n x) (hc : ∀ x ∈ vs, x.isCell = true) (h : storeC cx b off vs s = some s') :
    ∃ w', (storeCells ⟨ρ.blk b, off, none⟩ (vs.map (SV.conc ρ))).run P w = .ok () w' ∧ HpOK ρ s'.n s'.heap w' ∧ Ext [b] ρ s.n s.heap w ρ s'.n s'.heap w' ∧ s'.log = olds cx.base [b] ++ s.log ∧ s'.env = s.env ∧ s'.n = s.n ∧ s'.defs = s.defs := by
  obtain ⟨env, heap, n, log, defs⟩ := s
  obtain ⟨bl, hb, h⟩ := bindO_eq.1 (show (bindO (hget heap b) fun bl => bindO (putS vs off bl.cells) fun cs => some (⟨env, hset heap b ⟨cs, bl.sz⟩, n, logged cx b log, defs⟩ : St)) = some s' from h)
  obtain ⟨cs, hcs, h⟩ := bindO_eq.1 h
  cases h
  dsimp only at *
  obtain ⟨p1, p2, p3⟩ := putS_get _ _ hcs
  have hbk := hh.bk b bl hb
  have hrun := run_storeCells_cells (P := P) (ρ.blk b) off (vs.map (SV.conc ρ)) 0 w
    (fun j hj => by
      simp at hj
      have hlt : off + 0 + j < bl.cells.length := by omega
      rw [hbk.cell (List.getElem?_eq_getElem hlt)]; rfl)
    (fun j hj => by simp at hj; exact hbk.thaw (by omega))
    (fun u hu => by obtain ⟨x, hx, rfl⟩ := List.mem_map.1 hu; exact isCell_one (hc x hx) ρ)
  obtain ⟨g1, g2, g3⟩ := setCells_heap (ρ.blk b) (vs.map (SV.conc ρ)) off w
  have hsc : ∀ x ∈ cs, Sc n x := fun x hx => by
    obtain ⟨i, hi⟩ := List.mem_iff_getElem?.1 hx
    rw [p3 i] at hi
    split at hi
    · exact hv x (List.mem_of_getElem? hi)
    · exact hh.sc b bl hb x (List.mem_of_getElem? hi)
  obtain ⟨q1, q2⟩ := write_step hh hb p1 hsc g1 g2 (fun arr e fz hx hlo hin => by
    have hsize : bl.cells.length ≤ arr.size := by
      rcases Nat.lt_or_ge arr.size bl.cells.length with hlt | hge
      · have := hin arr.size _ (List.getElem?_eq_getElem hlt)
        simp at this
      · exact hge
    obtain ⟨arr', e1, e2, e3⟩ := g3 arr e fz hx (by simp; omega)
    refine ⟨arr', fz, e1, hlo, e2, fun i x hx => ?_⟩
    rw [e3 i]
    rw [p3 i] at hx
    simp only [List.length_map, List.getElem?_map]
    split at hx
    · rename_i hi; rw [if_pos hi, hx]; rfl
    · rename_i hi; rw [if_neg hi]; exact hin i x hx)
  refine ⟨_, by simpa using hrun, q1, q2, logged_eq _ _ _, rfl, rfl, rfl⟩
theorem store_ok (he : EnvOK ρ s a) (hh : HpOK ρ s.n s.heap w) {t : TypeId} {p x : Operand} (h : storeOp P cx s t p x = some (v, s')) :
    ∃ w', (Instr.storeAt t (a.eval p) (a.eval x)).run P w = .ok () w' ∧ v = .v undef ∧ Eff cx s v s' ρ w ρ w' := by
  obtain ⟨q, hq, h⟩ := bindO_eq.1 h
  obtain ⟨y, hy, h⟩ := bindO_eq.1 h
  obtain ⟨s2, hs, h⟩ := bindO_eq.1 h
  cases h
  obtain ⟨ep, -⟩ := opv_ok he hh hq
  obtain ⟨ex, sx⟩ := opv_ok he hh hy
  obtain ⟨b, off, hq0, hs⟩ := ptrOf_eq hs
  rw [hq0, conc_ptr] at ep
  obtain ⟨n, hn, hs⟩ := bindO_eq.1 hs
  obtain ⟨h1, hs⟩ := guardO_eq.1 hs
  obtain ⟨h2, hs⟩ := guardO_eq.1 hs
  obtain ⟨w', hr, h3, h4, h5, h6, h7, h8⟩ := storeC_ok (P := P) hh sx.cells (allCell_eq h2) hs
  have hl : y.cells.length = n := by rw [← len_eq]; exact Nat.eq_of_beq_eq_true h1
  have hsz : (y.conc ρ).cells.size = n := by rw [← Array.length_toList, cells_conc]; simpa using hl
  refine ⟨w', ?_, rfl, ⟨[b], h4, h5⟩, h3, h6, Sc.v _ _, h8⟩
  rw [ep, ex]
  simp [Instr.storeAt, Instr.sureAddr, storeVar, sizeOf_run hn, hsz, cells_conc, hr]
theorem newS_eq {cs : List SV} {sz : Nat} {K : Nat → SV} (h : newS cs sz s K = some (v, s')) : v = K s.n ∧ s' = ⟨s.env, ⟨s.n, ⟨cs, sz⟩⟩ :: s.heap, s.n + 1, s.log, s.defs⟩ := by
  cases h
  exact ⟨rfl, rfl⟩
theorem new_eff (hh : HpOK ρ s.n s.heap w) {cs : List SV} {sz cap : Nat} {K : Nat → SV} (h : newS cs sz s K = some (v, s')) (hK : Sc (s.n + 1) (K s.n)) (hs : ∀ x ∈ cs, Sc s.n x) {w' : World} (hold : Old w w') {arr : Array Value} {e : TypeId} {fz : Nat × Nat}
    (hnew : w'.heap[w.heap.size]? = some (.cells arr e fz)) (hcs : ∀ (i : Nat) (x : SV), cs[i]? = some x → arr[i]? = some (x.conc ρ)) (hfz : Lo fz arr.size) (hsz : sz ≠ 0 → arr.size = sz * cap) :
    Eff cx s v s' ρ w (ρ.put s.n w.heap.size cap) w' := by
  obtain ⟨rfl, rfl⟩ := newS_eq h
  obtain ⟨h1, h2⟩ := new_step hh hs hold hnew hcs hfz hsz
  exact ⟨⟨[], h2, rfl⟩, h1, rfl, hK, rfl⟩
theorem alloc_cells (w : World) (o : Obj) : Old w (w.alloc o) ∧ (w.alloc o).heap[w.heap.size]? = some o := by
  constructor
  · refine ⟨fun r hr => ?_, ⟨rfl, rfl, rfl⟩⟩
    show (w.heap.push o)[r]? = _
    simp [Array.getElem?_push, Nat.ne_of_lt hr]
  · show (w.heap.push o)[w.heap.size]? = _
    simp
theorem put_blk (ρ : Va) (n b c : Nat) : (ρ.put n b c).blk n = b ∧ (ρ.put n b c).cap n = c := ⟨if_pos rfl, if_pos rfl⟩
theorem getElem_of_map {cs : List SV} {i : Nat} {x : SV} (h : cs[i]? = some x) : (cs.map (SV.conc ρ)).toArray[i]? = some (x.conc ρ) := by simp [h]
theorem box_ok (he : EnvOK ρ s a) (hh : HpOK ρ s.n s.heap w) {t : TypeId} {x : Operand} (h : (bindO (opv s.env x) fun v => newS v.cells 0 s fun n => .ptr n 0) = some (v, s')) :
    ∃ ρ' w', (Instr.box t (a.eval x)).run P w = .ok (v.conc ρ') w' ∧ Eff cx s v s' ρ w ρ' w' := by
  obtain ⟨y, hy, h⟩ := bindO_eq.1 h
  obtain ⟨e, hs⟩ := opv_ok he hh hy
  obtain ⟨g1, g2⟩ := alloc_cells w (.cells (y.conc ρ).cells t)
  refine ⟨_, _, ?_, new_eff (cap := 0) hh h (Sc.ptr (Nat.lt_succ_self _)) hs.cells g1 g2 (fun i x hx => ?_) (.inl rfl) (fun h => absurd rfl h)⟩
  · rw [(newS_eq h).1, conc_ptr, (put_blk _ _ _ _).1, e]
    simp [Instr.box, newVar, newRow]
  · have := getElem_of_map (ρ := ρ) hx
    rw [← cells_conc] at this
    simpa using this
theorem allocate_ok (hh : HpOK ρ s.n s.heap w) {t : TypeId} (h : (bindO (zeroOf P t) fun cs => newS cs 0 s fun n => .ptr n 0) = some (v, s')) :
    ∃ ρ' w', (Instr.alloc t true (.tuple #[])).run P w = .ok (v.conc ρ') w' ∧ Eff cx s v s' ρ w ρ' w' := by
  obtain ⟨z, hz, h⟩ := bindO_eq.1 h
  obtain ⟨i, zv, hi, hzv, hzc, hzs⟩ := zero_conc (ρ := ρ) hz
  obtain ⟨g1, g2⟩ := alloc_cells w (.cells zv.cells t)
  refine ⟨_, _, ?_, new_eff (cap := 0) hh h (Sc.ptr (Nat.lt_succ_self _)) (hzs s.n) g1 g2 (fun i x hx => ?_) (.inl rfl) (fun h => absurd rfl h)⟩
  · rw [(newS_eq h).1, conc_ptr, (put_blk _ _ _ _).1]
    simp [Instr.alloc, zeroValue, typeInfo, hi, hzv, newVar, newRow]
  · rw [← hzc]; exact getElem_of_map hx

/-! ### Rows -/
theorem replS_get {z : List SV} : ∀ (c i : Nat), i < c * z.length → (replS c z)[i]? = z[i % z.length]?
  | 0, i, h => by simp at h
  | c + 1, i, h => by
    show (z ++ replS c z)[i]? = _
    rw [List.getElem?_append]
    split
    · rename_i hi; rw [Nat.mod_eq_of_lt hi]
    · rename_i hi
      rw [replS_get c (i - z.length) (by rw [Nat.succ_mul] at h; omega)]
      congr 1
      exact (Nat.mod_eq_sub_mod (by omega)).symm
theorem replS_len (z : List SV) : ∀ c, (replS c z).length = c * z.length
  | 0 => by show 0 = _; simp
  | c + 1 => by
    show (z ++ replS c z).length = _
    rw [List.length_append, replS_len z c, Nat.add_mul]; omega
theorem replS_sc {n : Nat} {z : List SV} (h : ∀ x ∈ z, Sc n x) : ∀ c, ∀ x ∈ replS c z, Sc n x
  | 0 => fun x hx => (by cases hx)
  | c + 1 => fun x hx => by
    rcases List.mem_append.1 (show x ∈ z ++ replS c z from hx) with hx | hx
    · exact h x hx
    · exact replS_sc h c x hx
theorem zeroRow_eq {e : TypeId} {zn : List SV × Nat} (h : zeroRow P e = some zn) (ρ : Va) : ∃ i zv, P.info? e = some i ∧ i.zero = some zv ∧ (zn.1.map (SV.conc ρ)).toArray = zv.cells ∧ (∀ n, ∀ x ∈ zn.1, Sc n x) ∧ i.size = zn.2 ∧ zn.1.length = zn.2 ∧ zv.cells.size = zn.2 ∧ sizeT P e = some zn.2 := by
  obtain ⟨z, hz, h⟩ := bindO_eq.1 h
  obtain ⟨n, hn, h⟩ := bindO_eq.1 h
  obtain ⟨h1, h⟩ := guardO_eq.1 h
  cases h
  obtain ⟨i, zv, hi, hzv, hzc, hzs⟩ := zero_conc (ρ := ρ) hz
  have hl : z.length = n := by rw [← len_eq]; exact Nat.eq_of_beq_eq_true h1
  refine ⟨i, zv, hi, hzv, hzc, hzs, ?_, hl, by rw [← hzc]; simpa using hl, hn⟩
  obtain ⟨j, hj, hn⟩ := bindO_eq.1 hn
  rw [hi] at hj
  cases hj
  cases hn
  rfl
theorem made_conc {zn : List SV × Nat} {zv : Value} (hz : (zn.1.map (SV.conc ρ)).toArray = zv.cells) (hl : zn.1.length = zn.2) (c : Nat) :
    ((replS c zn.1).map (SV.conc ρ)).toArray = (Array.range (c * zn.2)).map (fun i => zv.cells[i % zv.cells.size]!) := by
  refine Array.ext_getElem? fun i => ?_
  have hs : zv.cells.size = zn.2 := by rw [← hz]; simpa using hl
  by_cases hi : i < c * zn.2
  · have hpos : 0 < zn.2 := by
      rcases Nat.eq_zero_or_pos zn.2 with h0 | h0
      · rw [h0] at hi; simp at hi
      · exact h0
    have hm : i % zn.2 < zn.2 := Nat.mod_lt _ hpos
    have e1 : (replS c zn.1)[i]? = zn.1[i % zn.2]? := by rw [replS_get c i (by rw [hl]; exact hi), hl]
    have hm' : i % zn.2 < zv.cells.size := by omega
    have e2 : zv.cells[i % zn.2]? = some zv.cells[i % zn.2]! := by rw [getElem!_pos zv.cells _ hm']; exact Array.getElem?_eq_getElem hm'
    simp only [List.getElem?_toArray, List.getElem?_map, e1, hs]
    rw [show (zn.1[i % zn.2]?.map (SV.conc ρ)) = zv.cells[i % zn.2]? by rw [← hz]; simp, e2]
    simp [hi]
  · have e1 : (replS c zn.1)[i]? = none := by
      have := replS_len zn.1 c
      rw [hl] at this
      simp; omega
    simp [e1, hi]
theorem buildRow_ok (he : EnvOK ρ s a) (hh : HpOK ρ s.n s.heap w) {t : TypeId} {n : Nat} {ps : Array (Nat × Operand)} (h : buildRow P s t n ps = some (v, s')) :
    ∃ ρ' w', (Instr.buildSlice t n (ps.map fun (i, x) => (i, a.eval x))).run P w = .ok (v.conc ρ') w' ∧ Eff cx s v s' ρ w ρ' w' := by
  obtain ⟨e, hel, h⟩ := bindO_eq.1 h
  obtain ⟨vs, hvs, h⟩ := bindO_eq.1 h
  obtain ⟨zn, hzn, h⟩ := bindO_eq.1 h
  obtain ⟨h1, h⟩ := guardO_eq.1 h
  obtain ⟨cs, hcs, h⟩ := bindO_eq.1 h
  obtain ⟨i, zv, hi, hzv, hzc, hzs, hsz, hl, hzl, hst⟩ := zeroRow_eq hzn ρ
  obtain ⟨epl, hs⟩ := opps_ok he hh hvs
  have hu := elemOfT_eq hel
  have hroom : n * zn.2 ≤ 16777216 := Nat.le_of_ble_eq_true h1
  have hf := fill_conc (ρ := ρ) hcs
  rw [made_conc hzc hl] at hf
  obtain ⟨g1, g2⟩ := alloc_cells w (.cells (cs.map (SV.conc ρ)).toArray e)
  refine ⟨_, _, ?_, new_eff (cap := 0) hh h (Sc.sl (Nat.lt_succ_self _)) (fill_sc hcs hs (replS_sc (hzs s.n) n)) g1 g2 (fun i x hx => getElem_of_map hx) (.inl rfl) (fun h => absurd rfl h)⟩
  rw [(newS_eq h).1, conc_ex, (put_blk _ _ _ _).1]
  have hno : ¬ (n * zn.2 > 2 ^ 24) := by omega
  simp only [Instr.buildSlice, Sem.run_bind, run_underlying hu, Result.andThen_ok, sizeOf_run hst, hno, if_false]
  rw [parts_list, epl]
  by_cases h0 : n * zn.2 = 0
  · have e0 : ∀ f : Nat → Value, (#[] : Array Nat).map f = #[] := fun f => by simp
    have hf0 : Instr.fill (fun i => some (i * zn.2, zn.2)) ((Array.range (n * zn.2)).map (fun x => (#[] : Array Value)[x % (#[] : Array Value).size]!)) (vs.map fun p => (p.1, p.2.conc ρ)) = some (cs.map (SV.conc ρ)).toArray := by
      rw [h0, Array.range_zero', e0] at hf ⊢
      exact hf
    rw [if_pos h0]
    simp only [pure_bind, hf0]
    rfl
  · have hf1 : Instr.fill (fun i => some (i * zn.2, zn.2)) ((Array.range (n * zn.2)).map (fun x => zv.cells[x % zv.cells.size]!)) (vs.map fun p => (p.1, p.2.conc ρ)) = some (cs.map (SV.conc ρ)).toArray := hf
    have hzr : (zeroValue e).run P w = .ok zv w := by simp [zeroValue, typeInfo, hi, hzv]
    rw [if_neg h0]
    simp only [Sem.run_bind, hzr, Result.andThen_ok, pure_bind, hf1]
    rfl
theorem roomyT_eq {n : Nat} {e : TypeId} {i : TypeInfo} (hi : P.info? e = some i) (h : roomyT P n e = true) : n ≤ 16777216 ∧ i.bytes ≤ 65536 := by
  unfold roomyT at h
  rw [hi] at h
  replace h : ifB (roomy n) (Nat.ble i.bytes 65536) false = true := h
  cases hr : roomy n with
  | false => rw [hr] at h; cases h
  | true => rw [hr, ifB_true] at h; exact ⟨Nat.le_of_ble_eq_true hr, Nat.le_of_ble_eq_true h⟩
theorem makeRow_ok (he : EnvOK ρ s a) (hh : HpOK ρ s.n s.heap w) {t : TypeId} {l c : Operand} (h : makeRow P s t l c = some (v, s')) :
    ∃ ρ' w', (Instr.makeSlice t (a.eval l) (a.eval c)).run P w = .ok (v.conc ρ') w' ∧ Eff cx s v s' ρ w ρ' w' := by
  obtain ⟨e, hel, h⟩ := bindO_eq.1 h
  obtain ⟨l', hl', h⟩ := bindO_eq.1 h
  obtain ⟨c', hc', h⟩ := bindO_eq.1 h
  obtain ⟨zn, hzn, h⟩ := bindO_eq.1 h
  obtain ⟨h1, h⟩ := guardO_eq.1 h
  obtain ⟨h2, h⟩ := guardO_eq.1 h
  obtain ⟨lv, hlv, hl'⟩ := bindO_eq.1 hl'
  obtain ⟨cv, hcv, hc'⟩ := bindO_eq.1 hc'
  obtain ⟨kl, ekl⟩ := natOf_eq hl'
  obtain ⟨kc, ekc⟩ := natOf_eq hc'
  have el := (opv_ok he hh hlv).1
  have ec := (opv_ok he hh hcv).1
  rw [ekl, conc_v] at el
  rw [ekc, conc_v] at ec
  obtain ⟨i, zv, hi, hzv, hzc, hzs, hsz, hln, hzl, hst⟩ := zeroRow_eq hzn ρ
  obtain ⟨r1, r2⟩ := roomyT_eq hi h2
  have hu := elemOfT_eq hel
  have hle : l' ≤ c' := Nat.le_of_ble_eq_true h1
  have hb : i.bytes * c' ≤ 65536 * 16777216 := Nat.mul_le_mul r2 r1
  have hrun := run_make (P := P) w t e i zv hu hi hzv kl kc (l' : Int) (c' : Int) (by omega) (by omega) (by omega) (by omega)
  have hcel : ∀ (j : Nat) (x : SV), (ifB (Nat.ble c' 65536) (replS c' zn.1) [])[j]? = some x → (replS c' zn.1)[j]? = some x := fun j x hx => by
    cases hbl : Nat.ble c' 65536 with
    | true => rw [hbl] at hx; exact hx
    | false => rw [hbl] at hx; cases hx
  have hsub : ∀ x ∈ (ifB (Nat.ble c' 65536) (replS c' zn.1) []), x ∈ replS c' zn.1 := fun x hx => by
    cases hbl : Nat.ble c' 65536 with
    | true => rw [hbl] at hx; exact hx
    | false => rw [hbl] at hx; cases hx
  obtain ⟨g1, g2⟩ := alloc_cells w (.cells (madeCells zv.cells ((c' : Int).toNat * i.size)) e)
  refine ⟨_, _, ?_, new_eff (cap := 0) hh h (Sc.sl (Nat.lt_succ_self _)) (fun x hx => replS_sc (hzs s.n) c' x (hsub x hx)) g1 g2 (fun j x hx => ?_) (.inl rfl) (fun h => absurd rfl h)⟩
  · rw [(newS_eq h).1, conc_ex, (put_blk _ _ _ _).1, el, ec, hrun]
    simp
  · have := getElem_of_map (ρ := ρ) (hcel j x hx)
    rw [made_conc hzc hln] at this
    rw [hsz]
    exact this
end Go.Ex
