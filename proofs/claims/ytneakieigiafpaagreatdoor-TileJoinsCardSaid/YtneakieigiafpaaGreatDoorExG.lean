/- The runner's append, copy and conversions: they do what the model's do. -/
import Derived.Test.YtneakieigiafpaaGreatDoorExDF
import Derived.Laws.BytesString
namespace Go.Ex
open Go
variable {P : Program} {cx : Cx} {o : Oper} {s s' : St} {v : SV} {ρ : Va} {a : Act} {w : World}

theorem BkOK.heap {w w' : World} {b : Nat} {bl : B} (h : BkOK ρ w b bl) (hw : w'.heap = w.heap) : BkOK ρ w' b bl := by
  obtain ⟨arr, e, fz, h1, h2⟩ := h
  exact ⟨arr, e, fz, by rw [hw]; exact h1, h2⟩
/-- A row's cells, in a world of the same memory. -/
structure RowOK (P : Program) (ρ : Va) (n sz : Nat) (w : World) (x : Value) (cs : List SV) (k : Nat) : Prop where
  len : Builtin.lenOf x = pure k
  sc : ∀ y ∈ cs, Sc n y
  size : cs.length = k * sz
  first : ∀ w' : World, w'.heap = w.heap → ∀ m r, m ≤ k → takeN (m * sz) cs = some r → (Builtin.firstCells sz m x).run P w' = .ok (r.map (SV.conc ρ)).toArray w'
theorem takeN_all : ∀ (l : List SV), takeN l.length l = some l
  | [] => rfl
  | x :: l => by
    show (bindO (takeN l.length l) fun r => some (x :: r)) = _
    rw [takeN_all l]; rfl
theorem takeS_sub {n m off : Nat} {l r q : List SV} (h : takeS n l off = some r) (hm : m ≤ n) (hq : takeN m r = some q) : takeS m l off = some q := by
  obtain ⟨e1, e2⟩ := takeS_eq h
  obtain ⟨e3, e4⟩ := takeN_eq _ hq
  unfold takeS
  rw [dropN_eq]
  have hl : ((l.drop off).take m).length = m := by
    rw [e1] at e2
    simp at e2 ⊢
    omega
  have : q = (l.drop off).take m := by rw [e3, e1, List.take_take, Nat.min_eq_left hm]
  rw [this]
  have take : ∀ (m : Nat) (l : List SV), m ≤ l.length → takeN m l = some (l.take m) := by
    intro m
    induction m with
    | zero => intro l _; rfl
    | succ m ih =>
      intro l hl
      cases l with
      | nil => simp at hl
      | cons x l =>
        show (bindO (takeN m l) fun r => some (x :: r)) = _
        rw [ih l (by simpa using hl)]; rfl
  exact take m _ (by simp at hl ⊢; omega)
theorem sl_conc (b off n : Nat) (c : Cp) : ∃ cp, (SV.sl b off n c).conc ρ = .slice (some ⟨ρ.blk b, off, none⟩) n cp := by
  cases c <;> exact ⟨_, by first | exact conc_ex _ _ _ _ _ | exact conc_un _ _ _ _ _⟩
theorem rowS_ok {n : Nat} {H : List Hp} (hh : HpOK ρ n H w) {sz : Nat} {x : SV} {r : List SV × Nat} (h : rowS H sz x = some r) : RowOK P ρ n sz w (x.conc ρ) r.1 r.2 := by
  unfold rowS at h
  split at h
  · cases h
    refine ⟨rfl, fun y hy => (by cases hy), by simp, fun w' hw m r hm hr => ?_⟩
    have hm0 : m = 0 := by dsimp only at hm; omega
    subst hm0
    rw [Nat.zero_mul] at hr
    cases hr
    rw [conc_v]
    exact run_firstCells_none w' sz 0 0 0
  · rename_i b off k c
    obtain ⟨bl, hb, h⟩ := bindO_eq.1 h
    obtain ⟨cs, hcs, h⟩ := bindO_eq.1 h
    cases h
    dsimp only
    obtain ⟨cp, hcp⟩ := sl_conc (ρ := ρ) b off k c
    obtain ⟨g1, g2⟩ := takeS_get hcs
    rw [hcp]
    refine ⟨rfl, fun y hy => ?_, g1, fun w' hw m r hm hr => ?_⟩
    · obtain ⟨i, hi⟩ := List.mem_iff_getElem?.1 hy
      exact hh.sc b bl hb y (List.mem_of_getElem? (g2 i y hi))
    · exact run_loadCells_conc ((hh.bk b bl hb).heap hw) (takeS_sub hcs (Nat.mul_le_mul_right sz hm) hr)
  · cases h
theorem rowOrText_ok {n : Nat} {H : List Hp} (hh : HpOK ρ n H w) {sz : Nat} {x : SV} {r : List SV × Nat} (h : rowOrText H sz x = some r) : RowOK P ρ n sz w (x.conc ρ) r.1 r.2 := by
  unfold rowOrText at h
  split at h
  · rename_i bs
    obtain ⟨h1, h⟩ := guardO_eq.1 h
    cases h
    obtain rfl : sz = 1 := Nat.eq_of_beq_eq_true h1
    dsimp only
    rw [conc_v, bytes_row]
    refine ⟨rfl, fun y hy => ?_, by simp, fun w' hw m r hm hr => ?_⟩
    · obtain ⟨b, -, rfl⟩ := List.mem_map.1 hy
      exact Sc.v _ _
    · obtain ⟨e1, -⟩ := takeN_eq _ hr
      rw [Nat.mul_one] at e1
      rw [e1]
      show Result.ok ((bs.extract 0 m).data.map fun b => Value.int .u8 (b.toNat : Int)) w' = _
      congr 1
      apply Array.ext'
      simp [← List.map_take, Function.comp_def, conc_v, ByteArray.data_extract]
  · exact rowS_ok hh h
theorem take_all {cs : List SV} {k sz : Nat} (h : cs.length = k * sz) : takeN (k * sz) cs = some cs := by rw [← h]; exact takeN_all cs

theorem append_zeros {u : TypeId} (hd : (∃ e', P.underlying u = some (.slice e')) ∨ P.underlying u = some .string) (w : World) : ((do pure ((← underlying u) matches .int _)) : Sem Bool).run P w = .ok false w := by
  rcases hd with ⟨e', hd⟩ | hd <;> simp [run_underlying hd]
set_option maxHeartbeats 1000000 in
theorem append_room {ts : Array TypeId} {t u ty e : TypeId} {i : TypeInfo} (t0 : ts[0]? = some t) (t1 : ts[1]? = some u) (ht : P.underlying t = some (.slice e)) (hd : (∃ e', P.underlying u = some (.slice e')) ∨ P.underlying u = some .string) (hi : P.info? e = some i)
    {A : Option Addr} {n c k : Nat} {x : Value} {news : List Value} (hlen : Builtin.lenOf x = pure k) (hnew : (Builtin.firstCells i.size k x).run P w = .ok news.toArray w) (hroom : n + k ≤ c) :
    (Builtin.append_ ts ty #[.slice A n c, x]).run P w = (match A with | some A => (storeCells (A.add (n * i.size)) news).run P w | none => .ok () w).andThen fun _ w' => .ok (.slice A (n + k) c) w' := by
  have hs : (sizeOf e).run P w = .ok i.size w := by simp [sizeOf, typeInfo, hi]
  rcases hd with ⟨e', hd⟩ | hd
  · cases A <;> simp [Builtin.append_, t0, t1, run_underlying ht, run_underlying hd, hs, hlen, hroom, hnew]
  · cases A <;> simp [Builtin.append_, t0, t1, run_underlying ht, run_underlying hd, hs, hlen, hroom, hnew]
set_option maxHeartbeats 1000000 in
theorem append_grow {ts : Array TypeId} {t u ty e : TypeId} {i : TypeInfo} {z : Value} (t0 : ts[0]? = some t) (t1 : ts[1]? = some u) (ht : P.underlying t = some (.slice e)) (hd : (∃ e', P.underlying u = some (.slice e')) ∨ P.underlying u = some .string) (hi : P.info? e = some i) (hz : i.zero = some z)
    {A : Option Addr} {n c k : Nat} {x : Value} {olds news : List Value} (hlen : Builtin.lenOf x = pure k) (hnew : (Builtin.firstCells i.size k x).run P w.drew = .ok news.toArray w.drew) (hold : (Builtin.firstCells i.size n (.slice A n c)).run P w.drew = .ok olds.toArray w.drew)
    (hg : c < n + k) (h63 : n + k ≤ 16777216) (hb : i.bytes ≤ 65536) :
    (Builtin.append_ ts ty #[.slice A n c, x]).run P w = .ok (.slice (some ⟨w.heap.size, 0, none⟩) (n + k) (grownCap w (n + k) c e))
      (w.drew.alloc (.cells (olds.toArray ++ news.toArray ++ Builtin.zeroCells z.cells (grownCap w (n + k) c e - (n + k))) e)) := by
  have hn : ¬ (n + k ≤ c) := by omega
  have h63' : ¬ (9223372036854775807 < ((n : Int) + (k : Int))) := by omega
  have hfit : Builtin.nextslicecap (n + k) c * i.bytes ≤ 281474976710656 := growslice_fits hg (by have := Nat.mul_le_mul h63 hb; omega)
  have h48' : ¬ (281474976710656 < Builtin.nextslicecap (n + k) c * i.bytes) := by omega
  have hs : (sizeOf e).run P w = .ok i.size w := by simp [sizeOf, typeInfo, hi]
  rcases hd with ⟨e', hd⟩ | hd
  · simp [Builtin.append_, t0, t1, run_underlying ht, run_underlying hd, hs, typeInfo, zeroValue, hi, hz, hlen, hn, h63', h48', Question.forced, hnew, hold, newRow, grownCap]
    congr 2
    apply Array.ext'
    simp [List.append_assoc]
  · simp [Builtin.append_, t0, t1, run_underlying ht, run_underlying hd, hs, typeInfo, zeroValue, hi, hz, hlen, hn, h63', h48', Question.forced, hnew, hold, newRow, grownCap]
    congr 2
    apply Array.ext'
    simp [List.append_assoc]
theorem cut_ge (w : World) (need old : Nat) (e : TypeId) : need ≤ grownCap w need old e := by
  show need ≤ need + _
  exact Nat.le_add_right _ _
theorem drew_alloc_cells (w : World) (o : Obj) : Old w (w.drew.alloc o) ∧ (w.drew.alloc o).heap[w.heap.size]? = some o := ⟨⟨(alloc_cells w.drew o).1.blk, ⟨rfl, rfl, rfl⟩⟩, (alloc_cells w.drew o).2⟩
theorem grown_get {news : List SV} {Z : Array Value} {i : Nat} {x : SV} (h : news[i]? = some x) : ((news.map (SV.conc ρ)).toArray ++ Z)[i]? = some (x.conc ρ) := by
  have hlt : i < news.length := (List.getElem?_eq_some_iff.1 h).1
  rw [Array.getElem?_append_left (by simpa using hlt)]
  exact getElem_of_map h
theorem grown_size {cs : List SV} {z : Array Value} {n sz cap : Nat} (h : cs.length = n * sz) (hz : z.size = sz) (hc : n ≤ cap) : ((cs.map (SV.conc ρ)).toArray ++ Builtin.zeroCells z (cap - n)).size = sz * cap := by
  simp only [Array.size_append, List.size_toArray, List.length_map, Builtin.zeroCells, Array.size_map, Array.size_range, h, hz]
  rw [← Nat.add_mul, Nat.mul_comm, show n + (cap - n) = cap by omega]
/-- The grown slice in a block of a new name. -/
theorem grown_eff (hh : HpOK ρ s.n s.heap w) {cs : List SV} {sz n : Nat} (hs : ∀ x ∈ cs, Sc s.n x) (hl : cs.length = n * sz) {z : Array Value} (hz : z.size = sz) {need old : Nat} (hn : need = n) {e : TypeId} {arr : Array Value}
    (harr : arr = (cs.map (SV.conc ρ)).toArray ++ Builtin.zeroCells z (grownCap w need old e - need)) (h : grownS cs sz n s = some (v, s')) :
    v.conc (ρ.put s.n w.heap.size (grownCap w need old e)) = .slice (some ⟨w.heap.size, 0, none⟩) n (grownCap w need old e) ∧
    Eff cx s v s' ρ w (ρ.put s.n w.heap.size (grownCap w need old e)) (w.drew.alloc (.cells arr e)) := by
  subst hn
  unfold grownS at h
  rw [force_eq] at h
  obtain ⟨g1, g2⟩ := drew_alloc_cells w (.cells arr e)
  constructor
  · rw [(newS_eq h).1, conc_un, (put_blk _ _ _ _).1, (put_blk _ _ _ _).2]
    rfl
  · refine new_eff hh h (Sc.sl (Nat.lt_succ_self _)) hs g1 g2 (fun i x hx => ?_) (.inl rfl) (fun _ => ?_)
    · rw [harr]; exact grown_get hx
    · rw [harr]; exact grown_size hl hz (cut_ge _ _ _ _)
theorem Ext.wide {L L' : List Nat} {n n' : Nat} {H H' : List Hp} {ρ' : Va} {w' : World} (h : Ext L ρ n H w ρ' n' H' w') (hs : ∀ b ∈ L, b ∈ L') (hv : ∀ b ∈ L', b < n → ∃ x, hget H b = some x) : Ext L' ρ n H w ρ' n' H' w' where
  le := h.le
  size := h.size
  agr := h.agr
  nrev := h.nrev
  frame := fun r hr hno => h.frame r hr fun b hb => hno b (hs b hb)
  vis := hv
  new := fun b hb y hy => by
    rcases h.new b hb y hy with h1 | ⟨c, hc, h1, h2⟩
    · exact .inl h1
    · exact .inr ⟨c, hs c hc, h1, h2⟩
  side := h.side
/-- The grown slice in the old block, under a new name. -/
theorem inplace_step {n b : Nat} {H : List Hp} (hh : HpOK ρ n H w) {bl : B} (hb : hget H b = some bl) {cs : List SV} (hs : ∀ x ∈ cs, Sc n x) {w' : World} (hsz : w'.heap.size = w.heap.size ∧ Side w w') (hr : ∀ r, r ≠ ρ.blk b → w'.heap[r]? = w.heap[r]?)
    {arr : Array Value} {e : TypeId} {fz : Nat × Nat} (hnew : w'.heap[ρ.blk b]? = some (.cells arr e fz)) (hcs : ∀ (i : Nat) (x : SV), cs[i]? = some x → arr[i]? = some (x.conc ρ)) (hfz : Lo fz arr.size) (hsize : bl.sz ≠ 0 → arr.size = bl.sz * ρ.cap b) :
    HpOK (ρ.put n (ρ.blk b) (ρ.cap b)) (n + 1) (⟨n, ⟨cs, bl.sz⟩⟩ :: hdel H b) w' ∧ Ext [b] ρ n H w (ρ.put n (ρ.blk b) (ρ.cap b)) (n + 1) (⟨n, ⟨cs, bl.sz⟩⟩ :: hdel H b) w' := by
  obtain ⟨hsz, hside⟩ := hsz
  have ha := Va.put_agr ρ n (ρ.blk b) (ρ.cap b)
  obtain ⟨hblk, hcap⟩ := put_blk ρ n (ρ.blk b) (ρ.cap b)
  have old : ∀ c z, hget (hdel H b) c = some z → hget H c = some z ∧ c ≠ b ∧ c < n := fun c z hc => by
    obtain ⟨h1, h2⟩ := hdel_get b hh.srt hc
    exact ⟨h1, h2, hh.srt.lt h1⟩
  constructor
  · refine ⟨⟨Nat.lt_succ_self n, hdel_srt b hh.srt⟩, fun c z hc => ?_, fun c z hc => ?_, fun c c' x y hx hy hcc => ?_, fun g hg => ?_, Nat.le_succ_of_le hh.big⟩
    · rw [hget_cons] at hc
      split at hc
      · cases hc; exact fun x hx => (hs x hx).mono (Nat.le_succ n)
      · exact fun x hx => (hh.sc c z (old c z hc).1 x hx).mono (Nat.le_succ n)
    · rw [hget_cons] at hc
      split at hc
      · rename_i hcn
        subst hcn
        cases hc
        refine ⟨arr, e, fz, by rw [hblk]; exact hnew, fun i x hx => ?_, hfz, fun hz => by rw [hcap]; exact hsize hz⟩
        rw [hs x (List.mem_of_getElem? hx) ρ _ ha]
        exact hcs i x hx
      · obtain ⟨h1, h2, h3⟩ := old c z hc
        exact (hh.bk c z h1).move h3 (hh.sc c z h1) ha (hr _ fun he => h2 (hh.inj c b z bl h1 hb he))
    · have key : ∀ d z, hget (hdel H b) d = some z → (ρ.put n (ρ.blk b) (ρ.cap b)).blk d ≠ ρ.blk b := fun d z hd => by
        obtain ⟨h1, h2, h3⟩ := old d z hd
        rw [(ha d h3).1]
        exact fun he => h2 (hh.inj d b z bl h1 hb he)
      rw [hget_cons] at hx hy
      split at hx <;> split at hy
      · omega
      · rename_i h1 h2
        subst h1
        rw [hblk] at hcc
        exact absurd hcc.symm (key _ _ hy)
      · rename_i h1 h2
        subst h2
        rw [hblk] at hcc
        exact absurd hcc (key _ _ hx)
      · obtain ⟨h1, h2, h3⟩ := old c x hx
        obtain ⟨g1, g2, g3⟩ := old c' y hy
        rw [(ha c h3).1, (ha c' g3).1] at hcc
        exact hh.inj c c' x y h1 g1 hcc
    · rw [(ha g (Nat.lt_of_lt_of_le hg hh.big)).1]; exact hh.glob g hg
  · refine ⟨Nat.le_succ n, by omega, fun c hc => ⟨if_neg (by omega), if_neg (by omega)⟩, fun c hc y hy => ?_, fun r _ hno => hr r fun he => hno b List.mem_cons_self (hh.srt.lt hb) he.symm, fun c hc _ => ?_, fun c hc y hy => ?_, hside⟩
    · rw [hget_cons, if_neg (by omega)] at hy
      exact ⟨y, (old c y hy).1⟩
    · rw [List.mem_singleton] at hc
      subst hc
      exact ⟨bl, hb⟩
    · rw [hget_cons] at hy
      split at hy
      · rename_i hcn
        subst hcn
        exact .inr ⟨b, List.mem_cons_self, hh.srt.lt hb, by rw [hblk]⟩
      · exact absurd (old c y hy).2.2 (by omega)
theorem sl_sc_ex {n b off k c : Nat} (h : b < n) : Sc n (.sl b off k (.ex c)) := Sc.sl h
theorem ops_sum (x y : List SV) (ρ : Va) : (x.map (SV.conc ρ)).toArray ++ (y.map (SV.conc ρ)).toArray = ((x ++ y).map (SV.conc ρ)).toArray := by simp
theorem appendE_ok (hh : HpOK ρ s.n s.heap w) {ts : Array TypeId} {t u ty e : TypeId} (t0 : ts[0]? = some t) (t1 : ts[1]? = some u) (ht : P.underlying t = some (.slice e)) (hd : (∃ e', P.underlying u = some (.slice e')) ∨ P.underlying u = some .string)
    {i : TypeInfo} {z : Value} {sz : Nat} (hi : P.info? e = some i) (hz : i.zero = some z) (hsz : i.size = sz) (hzs : z.cells.size = sz) (hpos : 1 ≤ sz) (hb : i.bytes ≤ 65536) {p : SV} {olds news : List SV} {n k : Nat} (hp : Sc s.n p) {x : Value}
    (ho : RowOK P ρ s.n sz w (p.conc ρ) olds n) (hn : RowOK P ρ s.n sz w x news k) (hroom : n + k ≤ 16777216) (hcell : ∀ y ∈ news, y.isCell = true) (h : appendE cx sz p olds news n k s = some (v, s')) :
    ∃ ρ' w', (Builtin.append_ ts ty #[p.conc ρ, x]).run P w = .ok (v.conc ρ') w' ∧ Eff cx s v s' ρ w ρ' w' := by
  have hall := hn.first w rfl k news (Nat.le_refl _) (take_all hn.size)
  have hnd := hn.first w.drew rfl k news (Nat.le_refl _) (take_all hn.size)
  have hod := ho.first w.drew rfl n olds (Nat.le_refl _) (take_all ho.size)
  subst hsz
  have hscA : ∀ y ∈ olds ++ news, Sc s.n y := fun y hy => (List.mem_append.1 hy).elim (ho.sc y) (hn.sc y)
  have same_eff : Eff cx s p s ρ w ρ w := ⟨⟨[], Ext.refl _ _ _ _ hh.srt, rfl⟩, hh, rfl, hp, rfl⟩
  have grow : ∀ {A : Option Addr} {c : Nat}, p.conc ρ = .slice A n c → c < n + k → grownS (olds ++ news) i.size (n + k) s = some (v, s') →
      ∃ ρ' w', (Builtin.append_ ts ty #[p.conc ρ, x]).run P w = .ok (v.conc ρ') w' ∧ Eff cx s v s' ρ w ρ' w' := fun {A c} hpc hg hgr => by
    rw [hpc] at hod
    have hrun := append_grow (ty := ty) t0 t1 ht hd hi hz hn.len hnd hod hg hroom hb
    obtain ⟨g1, g2⟩ := grown_eff (cx := cx) hh (cs := olds ++ news) (sz := i.size) (n := n + k) hscA
      (by rw [List.length_append, ho.size, hn.size, Nat.add_mul]) hzs (need := n + k) (old := c) rfl (e := e) (by rw [← ops_sum]) hgr
    exact ⟨_, _, by rw [hpc, hrun, g1], g2⟩
  unfold appendE at h
  split at h
  · have hol : n = 0 := by have := ho.len; rw [conc_v] at this; simpa [Builtin.lenOf, pure] using (congrArg (fun s => match s with | Sem.pure a => a | _ => 0) this).symm
    subst hol
    cases k with
    | zero =>
      cases h
      refine ⟨ρ, w, ?_, same_eff⟩
      rw [conc_v, append_room t0 t1 ht hd hi hn.len hall (Nat.le_refl _)]
      rfl
    | succ k =>
      have h' : grownS news i.size (k + 1) s = some (v, s') := h
      have hoe : olds = [] := by
        have := ho.size
        rw [Nat.zero_mul] at this
        exact List.length_eq_zero_iff.1 this
      exact grow (conc_v _ _) (by omega) (by rw [hoe, List.nil_append, Nat.zero_add]; exact h')
  · rename_i b off m c
    have hmn : m = n := by have := ho.len; rw [conc_ex] at this; simpa [Builtin.lenOf, pure] using (congrArg (fun s => match s with | Sem.pure a => a | _ => 0) this)
    subst hmn
    rcases ble_dec (Nat.add m k) c with ⟨e1, hle⟩ | ⟨e1, hlt⟩
    · rw [e1, ifB_true] at h
      obtain ⟨s2, hs2, h⟩ := bindO_eq.1 h
      rw [force_eq] at h
      cases h
      obtain ⟨w', hr, h3, h4, h5, h6, h7, h8⟩ := storeC_ok (P := P) hh hn.sc hcell hs2
      refine ⟨ρ, w', ?_, ⟨[b], h4, h5⟩, h3, h6, by rw [h7]; exact Sc.sl hp.sl_lt, h8⟩
      rw [conc_ex, conc_ex, append_room t0 t1 ht hd hi hn.len hall hle]
      simp only [Addr.add_lit]
      rw [show off + m * i.size = Nat.add off (Nat.mul m i.size) from rfl, hr]
      rfl
    · rw [e1, ifB_false] at h
      exact grow (conc_ex _ _ _ _ _) hlt h
  · rename_i b off m lo
    have hmn : m = n := by have := ho.len; rw [conc_un] at this; simpa [Builtin.lenOf, pure] using (congrArg (fun s => match s with | Sem.pure a => a | _ => 0) this)
    subst hmn
    obtain ⟨h1, ha⟩ := guardO_eq.1 h
    clear h
    obtain ⟨h2, hb'⟩ := guardO_eq.1 ha
    clear ha
    obtain ⟨h3, h⟩ := guardO_eq.1 hb'
    clear hb'
    obtain rfl : off = 0 := Nat.eq_of_beq_eq_true h1
    obtain rfl : lo = 0 := Nat.eq_of_beq_eq_true h2
    obtain ⟨bl, hbl, hbz⟩ : ∃ bl, hget s.heap b = some bl ∧ bl.sz = i.size := by
      unfold szIs at h3
      cases hb : hget s.heap b with
      | none => rw [hb] at h3; cases h3
      | some bl => rw [hb] at h3; exact ⟨bl, rfl, Nat.eq_of_beq_eq_true h3⟩
    have hcap0 : ρ.cap b - 0 = ρ.cap b := Nat.sub_zero _
    have hsc2 : ∀ y ∈ olds ++ news, Sc s.n y := hscA
    have hlen2 : (olds ++ news).length = (m + k) * i.size := by rw [List.length_append, ho.size, hn.size, Nat.add_mul]
    obtain ⟨env, heap, sn, log, defs⟩ := s
    dsimp only at *
    replace h : grownS (olds ++ news) i.size (Nat.add m k) ⟨env, hdel heap b, sn, logged cx b log, defs⟩ = some (v, s') := h
    unfold grownS at h
    rw [force_eq] at h
    obtain ⟨hv, hs'⟩ := newS_eq h
    dsimp only at hv hs'
    subst hv
    subst hs'
    by_cases hroom2 : m + k ≤ ρ.cap b
    · obtain ⟨arr, e', fz, q1, q2, q3, q4⟩ := hh.bk b bl hbl
      have hasz : arr.size = i.size * ρ.cap b := by rw [q4 (by omega), hbz]
      have hfit : m * i.size + (news.map (SV.conc ρ)).length ≤ arr.size := by
        rw [List.length_map, hn.size, hasz, ← Nat.add_mul, Nat.mul_comm]
        exact Nat.mul_le_mul_left _ hroom2
      have hcw : ∀ j, j < (news.map (SV.conc ρ)).length → (w.cell? ⟨ρ.blk b, m * i.size + 0 + j, none⟩).isSome = true := fun j hj => by
        have : m * i.size + j < arr.size := by omega
        simp [World.cell?, q1, this]
      have hfw : ∀ j, j < (news.map (SV.conc ρ)).length → w.frozen? ⟨ρ.blk b, m * i.size + 0 + j, none⟩ = false := fun j hj => by
        have hlt : m * i.size + j < arr.size := by omega
        have := q3.no (m * i.size + j) hlt
        simp only [World.frozen?, q1, Nat.add_zero, Bool.and_eq_false_iff, decide_eq_false_iff_not]
        by_cases h4 : fz.1 ≤ m * i.size + j
        · exact .inr fun h5 => this ⟨h4, h5⟩
        · exact .inl h4
      have hrun := run_storeCells_cells (P := P) (ρ.blk b) (m * i.size) (news.map (SV.conc ρ)) 0 w hcw hfw
        (fun u hu => by obtain ⟨x, hx, rfl⟩ := List.mem_map.1 hu; exact isCell_one (hcell x hx) ρ)
      obtain ⟨g1, g2, g3⟩ := setCells_heap (ρ.blk b) (news.map (SV.conc ρ)) (m * i.size) w
      obtain ⟨arr', a1, a2, a3⟩ := g3 arr e' fz q1 hfit
      have holds : ∀ (j : Nat) (y : SV), olds[j]? = some y → arr[j]? = some (y.conc ρ) := fun j y hy => by
        have h5 := ho.first w rfl m olds (Nat.le_refl _) (take_all ho.size)
        rw [conc_un] at h5
        have hjl : j < olds.length := (List.getElem?_eq_some_iff.1 hy).1
        have hall2 := run_loadCells (P := P) w ⟨ρ.blk b, 0, none⟩ (m * i.size) (fun j => arr.getD j undef) (fun j hj => by
          have : j < arr.size := by omega
          rw [Addr.add_lit, Nat.zero_add]
          simp [World.cell?, q1, this])
        rw [show (Builtin.firstCells i.size m (.slice (some ⟨ρ.blk b, 0, none⟩) m (ρ.cap b - 0))) = loadCells ⟨ρ.blk b, 0, none⟩ (m * i.size) from rfl, hall2] at h5
        injection h5 with h6
        have h7 := congrArg (fun z : Array Value => z[j]?) h6
        have hj2 : j < m * i.size := by rw [← ho.size]; exact hjl
        have hj3 : j < arr.size := by omega
        simpa [hj2, hy, hj3] using h7
      obtain ⟨p1, p2⟩ := inplace_step hh hbl hsc2 (w' := w.setCells (ρ.blk b) (m * i.size) (news.map (SV.conc ρ))) g1 g2 a1 (fun j y hy => by
        rw [a3 j]
        rw [List.getElem?_append] at hy
        split at hy
        · rename_i hj
          rw [ho.size] at hj
          rw [if_neg (by omega)]
          exact holds j y hy
        · rename_i hj
          rw [ho.size] at hj hy
          have hjl := (List.getElem?_eq_some_iff.1 hy).1
          rw [if_pos ⟨by omega, by rw [List.length_map]; omega⟩]
          simp [hy]) (by rw [a2]; exact q3) (fun h => a2.trans (q4 h))
      refine ⟨ρ.put sn (ρ.blk b) (ρ.cap b), w.setCells (ρ.blk b) (m * i.size) (news.map (SV.conc ρ)), ?_, ⟨[b], ?_, logged_eq _ _ _⟩, ?_, rfl, Sc.sl (Nat.lt_succ_self _), rfl⟩
      · rw [conc_un, conc_un, (put_blk _ _ _ _).1, (put_blk _ _ _ _).2, append_room t0 t1 ht hd hi hn.len hall (by omega)]
        simp only [Addr.add_lit, Nat.zero_add, hrun]
        simp
      · rw [hbz] at p2; exact p2
      · rw [hbz] at p1; exact p1
    · have hg : ρ.cap b - 0 < m + k := by omega
      have hod2 := hod
      rw [conc_un] at hod2
      have hrun := append_grow (ty := ty) t0 t1 ht hd hi hz hn.len hnd hod2 hg hroom hb
      obtain ⟨g1, g2⟩ := drew_alloc_cells w (.cells ((olds.map (SV.conc ρ)).toArray ++ (news.map (SV.conc ρ)).toArray ++ Builtin.zeroCells z.cells (grownCap w (m + k) (ρ.cap b - 0) e - (m + k))) e)
      obtain ⟨n1, n2⟩ := new_step hh (cap := grownCap w (m + k) (ρ.cap b - 0) e) (sz := i.size) hsc2 g1 g2 (fun j y hy => by rw [ops_sum]; exact grown_get hy) (.inl rfl) (fun _ => by rw [ops_sum]; exact grown_size hlen2 hzs (cut_ge _ _ _ _))
      have hsub : ∀ c y, hget (⟨sn, ⟨olds ++ news, i.size⟩⟩ :: hdel heap b) c = some y → hget (⟨sn, ⟨olds ++ news, i.size⟩⟩ :: heap) c = some y := fun c y hy => by
        rw [hget_cons] at hy ⊢
        split at hy
        · rename_i hc; rw [if_pos hc]; exact hy
        · rename_i hc; rw [if_neg hc]; exact (hdel_get b hh.srt hy).1
      refine ⟨ρ.put sn w.heap.size (grownCap w (m + k) (ρ.cap b - 0) e), w.drew.alloc (.cells ((olds.map (SV.conc ρ)).toArray ++ (news.map (SV.conc ρ)).toArray ++ Builtin.zeroCells z.cells (grownCap w (m + k) (ρ.cap b - 0) e - (m + k))) e), ?_, ⟨[b], ?_, logged_eq _ _ _⟩, ?_, rfl, Sc.sl (Nat.lt_succ_self _), rfl⟩
      · rw [conc_un, hrun, conc_un, (put_blk _ _ _ _).1, (put_blk _ _ _ _).2]
        simp
      · exact (n2.sub hsub).wide (fun _ h => (by cases h)) (fun c hc _ => by rw [List.mem_singleton] at hc; subst hc; exact ⟨bl, hbl⟩)
      · exact n1.sub ⟨Nat.lt_succ_self _, hdel_srt b hh.srt⟩ hsub
  · cases h
theorem rowType_eq {u : TypeId} (h : rowType P u = true) : (∃ e', P.underlying u = some (.slice e')) ∨ P.underlying u = some .string := by
  unfold rowType at h
  split at h
  · rename_i e hu; exact .inl ⟨e, hu⟩
  · rename_i hu; exact .inr hu
  · cases h
theorem append_ok (hh : HpOK ρ s.n s.heap w) {ts : Array TypeId} {t u ty : TypeId} (t0 : ts[0]? = some t) (t1 : ts[1]? = some u) {p q : SV} (hp : Sc s.n p) (h : appendS P cx t u p q s = some (v, s')) :
    ∃ ρ' w', (Builtin.append_ ts ty #[p.conc ρ, q.conc ρ]).run P w = .ok (v.conc ρ') w' ∧ Eff cx s v s' ρ w ρ' w' := by
  obtain ⟨e, he, h⟩ := bindO_eq.1 h
  obtain ⟨zn, hzn, h⟩ := bindO_eq.1 h
  obtain ⟨h1, h⟩ := guardO_eq.1 h
  obtain ⟨h2, h⟩ := guardO_eq.1 h
  obtain ⟨xs, hxs, h⟩ := bindO_eq.1 h
  obtain ⟨ys, hys, h⟩ := bindO_eq.1 h
  obtain ⟨h3, h⟩ := guardO_eq.1 h
  obtain ⟨h4, h⟩ := guardO_eq.1 h
  obtain ⟨i, zv, hi, hzv, hzc, hzs, hsz, hl, hzl, hst⟩ := zeroRow_eq hzn ρ
  obtain ⟨r1, r2⟩ := roomyT_eq hi h3
  exact appendE_ok hh t0 t1 (elemOfT_eq he) (rowType_eq h2) hi hzv hsz hzl (Nat.le_of_ble_eq_true h1) r2 hp (rowS_ok hh hys) (rowOrText_ok hh hxs) r1 (allCell_eq h4) h

theorem copyE_ok (hh : HpOK ρ s.n s.heap w) {ts : Array TypeId} {t ty e : TypeId} (t0 : ts[0]? = some t) (hu : P.underlying t = some (.slice e)) {sz : Nat} (hsz : sizeT P e = some sz) {p : SV} {x : Value} {xs : List SV} {n : Nat} (hr : RowOK P ρ s.n sz w x xs n) (h : copyE cx sz p xs n s = some (v, s')) :
    ∃ ρ' w', (Builtin.copy_ ts ty #[p.conc ρ, x]).run P w = .ok (v.conc ρ') w' ∧ Eff cx s v s' ρ w ρ' w' := by
  unfold copyE at h
  split at h
  · cases h
    refine ⟨ρ, w, ?_, ⟨[], Ext.refl _ _ _ _ hh.srt, rfl⟩, hh, rfl, Sc.v _ _, rfl⟩
    have hf := hr.first w rfl 0 [] (Nat.zero_le _) (by rw [Nat.zero_mul]; rfl)
    rw [conc_v, conc_v]
    simp [Builtin.copy_, t0, run_underlying hu, hr.len, sizeOf_run hsz, hf, goInt]
  · rename_i b off k c
    rw [force_eq] at h
    obtain ⟨cs, hcs, h⟩ := bindO_eq.1 h
    obtain ⟨h1, h⟩ := guardO_eq.1 h
    obtain ⟨s2, hs2, h⟩ := bindO_eq.1 h
    cases h
    obtain ⟨e1, e2⟩ := takeN_eq _ hcs
    have hle : Nat.min n k ≤ n := Nat.min_le_left _ _
    have hf := hr.first w rfl _ cs hle hcs
    obtain ⟨w', hrun, h3, h4, h5, h6, h7, h8⟩ := storeC_ok (P := P) hh (fun y hy => hr.sc y (by rw [e1] at hy; exact List.mem_of_mem_take hy)) (allCell_eq h1) hs2
    refine ⟨ρ, w', ?_, ⟨[b], h4, h5⟩, h3, h6, Sc.v _ _, h8⟩
    obtain ⟨cp, hcp⟩ := sl_conc (ρ := ρ) b off k c
    rw [hcp, conc_v]
    simp [Builtin.copy_, t0, run_underlying hu, hr.len, sizeOf_run hsz, hf, hrun, goInt]
  · cases h
theorem copy_ok (hh : HpOK ρ s.n s.heap w) {ts : Array TypeId} {t ty : TypeId} (t0 : ts[0]? = some t) {p q : SV} (h : copyS P cx t p q s = some (v, s')) :
    ∃ ρ' w', (Builtin.copy_ ts ty #[p.conc ρ, q.conc ρ]).run P w = .ok (v.conc ρ') w' ∧ Eff cx s v s' ρ w ρ' w' := by
  obtain ⟨e, he, h⟩ := bindO_eq.1 h
  obtain ⟨sz, hsz, h⟩ := bindO_eq.1 h
  obtain ⟨xs, hxs, h⟩ := bindO_eq.1 h
  exact copyE_ok hh t0 (elemOfT_eq he) hsz (rowOrText_ok hh hxs) h
theorem isText_eq {t : TypeId} (h : isText P t = true) : P.underlying t = some .string := by
  unfold isText at h
  split at h
  · assumption
  · cases h
theorem isU8_eq {t : TypeId} (h : isU8 P t = true) : P.underlying t = some (.int .u8) := by
  unfold isU8 at h
  split at h
  · assumption
  · cases h
theorem slowConv_ok (hh : HpOK ρ s.n s.heap w) {src dst : TypeId} {x : SV} (h : slowConv P src dst x s = some (v, s')) :
    ∃ ρ' w', (convert src dst (x.conc ρ)).run P w = .ok (v.conc ρ') w' ∧ Eff cx s v s' ρ w ρ' w' := by
  obtain ⟨u, hu, h⟩ := bindO_eq.1 h
  obtain ⟨r, hr, h⟩ := bindO_eq.1 h
  cases h
  obtain ⟨y, rfl, hy⟩ := pureOp_eq hr
  refine ⟨ρ, w, ?_, ⟨[], Ext.refl _ _ _ _ hh.srt, rfl⟩, hh, rfl, Sc.v _ _, rfl⟩
  rw [flat_conc hu ρ, conc_v]
  exact hy w
theorem mark_ok (hh : HpOK ρ s.n s.heap w) {src dst : TypeId} {b off k : Nat} {c : Cp} (hs : Sc s.n (.sl b off k c)) (h : markS P cx src dst b off (.sl b off k c) s = some (v, s')) :
    ∃ ρ' w', (convert src dst ((SV.sl b off k c).conc ρ)).run P w = .ok (v.conc ρ') w' ∧ Eff cx s v s' ρ w ρ' w' := by
  obtain ⟨h1, h⟩ := guardO_eq.1 h
  obtain ⟨e, he, h⟩ := bindO_eq.1 h
  obtain ⟨h2, h⟩ := guardO_eq.1 h
  obtain ⟨s2, hs2, h⟩ := bindO_eq.1 h
  cases h
  have hsd := Nat.eq_of_beq_eq_true h1
  subst hsd
  obtain ⟨env, heap, n, log, defs⟩ := s
  obtain ⟨bl, hb, hs2⟩ := bindO_eq.1 (show (bindO (hget heap b) fun bl => bindO (putS [] off bl.cells) fun cs => some (⟨env, hset heap b ⟨cs, bl.sz⟩, n, logged cx b log, defs⟩ : St)) = some s' from hs2)
  obtain ⟨cs, hcs, hs2⟩ := bindO_eq.1 hs2
  cases hs2
  dsimp only at *
  obtain ⟨p1, p2, p3⟩ := putS_get _ _ hcs
  have hcc : cs = bl.cells := List.ext_getElem? fun i => by rw [p3 i, if_neg (by simp)]
  subst hcc
  obtain ⟨arr, ty, fz, g1, g2, g3, g4⟩ := hh.bk b bl hb
  have hsh : w.shape? (ρ.blk b) = some (ty, arr.size) := by unfold World.shape?; rw [g1]
  let w' : World := w.freeze ⟨ρ.blk b, arr.size, none⟩ 1
  have hw' : w' = { w with heap := w.heap.modify (ρ.blk b) fun
      | .cells c elem (lo, hi) => .cells c elem (if lo == hi then (arr.size, arr.size + 1) else (min lo arr.size, max hi (arr.size + 1)))
      | o => o } := by
    show w.freeze _ 1 = _
    unfold World.freeze
    rw [if_neg (by decide)]
    rfl
  obtain ⟨q1, q2⟩ := write_step (w' := w') hh hb (cs := bl.cells) rfl (hh.sc b bl hb) ⟨by rw [hw']; simp, by rw [hw']; exact ⟨rfl, rfl, rfl⟩⟩ (fun r hr => by rw [hw']; simp [Array.getElem?_modify, Ne.symm hr]) (fun arr1 e1 fz1 hx hlo hin => by
    rw [g1] at hx
    cases hx
    obtain ⟨lo, hi⟩ := fz
    refine ⟨arr, if lo == hi then (arr.size, arr.size + 1) else (min lo arr.size, max hi (arr.size + 1)), by rw [hw']; simp [Array.getElem?_modify, g1], ?_, rfl, g2⟩
    by_cases hlh : lo = hi
    · subst hlh; simp [Lo]
    · have h5 : arr.size ≤ lo := by rcases g3 with h | h; exact absurd h hlh; exact h
      have : (lo == hi) = false := by simpa using hlh
      rw [this]
      exact .inr (by simp; omega))
  obtain ⟨cp, hcp⟩ := sl_conc (ρ := ρ) b off k c
  refine ⟨ρ, w', ?_, ⟨[b], q2, logged_eq _ _ _⟩, q1, rfl, hs, rfl⟩
  rw [hcp]
  simp [convert, run_underlying (elemOfT_eq he), run_underlying (isU8_eq h2), markStringish, hsh]
  rfl
theorem conv_ok (hh : HpOK ρ s.n s.heap w) {src dst : TypeId} {x : SV} (hs : Sc s.n x) (h : convS P cx src dst x s = some (v, s')) :
    ∃ ρ' w', (convert src dst (x.conc ρ)).run P w = .ok (v.conc ρ') w' ∧ Eff cx s v s' ρ w ρ' w' := by
  unfold convS at h
  split at h
  · rename_i bs
    cases he : elemOfT P dst with
    | none => rw [he] at h; exact slowConv_ok hh h
    | some e =>
      rw [he] at h
      obtain ⟨h1, h⟩ := guardO_eq.1 (show guardO (isText P src) (guardO (isU8 P e) (grownS (bytesS bs.data.toList) 1 bs.size s)) = some (v, s') from h)
      obtain ⟨h2, h⟩ := guardO_eq.1 h
      have hrun := run_bytes_of_string (P := P) w src dst e bs (isText_eq h1) (elemOfT_eq he) (isU8_eq h2)
      unfold grownS at h
      rw [force_eq] at h
      have hcap : bs.size ≤ grownCap w bs.size 0 e := cut_ge _ _ _ _
      have hsize : (bytesRow bs (grownCap w bs.size 0 e)).size = grownCap w bs.size 0 e := by
        have : bs.data.size = bs.size := rfl
        simp [bytesRow, this]
        omega
      obtain ⟨g1, g2⟩ := drew_alloc_cells w (.cells (bytesRow bs (grownCap w bs.size 0 e)) e ((bytesRow bs (grownCap w bs.size 0 e)).size, (bytesRow bs (grownCap w bs.size 0 e)).size + 1))
      refine ⟨_, _, ?_, new_eff (cap := grownCap w bs.size 0 e) hh h (Sc.sl (Nat.lt_succ_self _)) (fun y hy => ?_) g1 g2 (fun j y hy => ?_) (.inr (Nat.le_refl _)) (fun _ => by rw [hsize, Nat.one_mul])⟩
      · rw [conc_v, hrun, (newS_eq h).1, conc_un, (put_blk _ _ _ _).1, (put_blk _ _ _ _).2]
        rfl
      · rw [bytes_row] at hy
        obtain ⟨b, -, rfl⟩ := List.mem_map.1 hy
        exact Sc.v _ _
      · rw [bytes_row, List.getElem?_map] at hy
        cases hb : bs.data.toList[j]? with
        | none => rw [hb] at hy; cases hy
        | some c =>
          rw [hb] at hy
          cases hy
          have hlt : j < bs.data.size := by simpa using (List.getElem?_eq_some_iff.1 hb).1
          rw [conc_v]
          unfold bytesRow
          rw [Array.getElem?_append_left (by simpa using hlt)]
          have hb' : bs.data[j]? = some c := by simpa using hb
          simp [hb']
  · rename_i b off k c
    cases h1 : isText P dst with
    | false => rw [h1] at h; exact mark_ok hh hs h
    | true =>
    rw [h1] at h
    obtain ⟨e, he, h⟩ := bindO_eq.1 (show (bindO (elemOfT P src) fun e => guardO (isU8 P e) (bindO (rowS s.heap 1 (.sl b off k c)) fun cs => bindO (mapO byteOf cs.1) fun l => some (SV.v (.string ⟨l.toArray⟩), s))) = some (v, s') from h)
    obtain ⟨h2, h⟩ := guardO_eq.1 h
    obtain ⟨cs, hcs, h⟩ := bindO_eq.1 h
    obtain ⟨l, hl, h⟩ := bindO_eq.1 h
    cases h
    refine ⟨ρ, w, ?_, ⟨[], Ext.refl _ _ _ _ hh.srt, rfl⟩, hh, rfl, Sc.v _ _, rfl⟩
    obtain ⟨bl, hbl, hcs⟩ := bindO_eq.1 (show (bindO (hget s.heap b) fun bl => bindO (takeS (Nat.mul k 1) bl.cells off) fun cs => some (cs, k)) = some cs from hcs)
    obtain ⟨ds, hds, hcs⟩ := bindO_eq.1 hcs
    cases hcs
    obtain ⟨g1, g2⟩ := takeS_get hds
    obtain ⟨m1, m2⟩ := mapO_eq.1 hl
    obtain ⟨cp, hcp⟩ := sl_conc (ρ := ρ) b off k c
    have hk : l.length = k := by rw [m1, g1]; exact Nat.mul_one k
    have := run_convert_bytes_back (P := P) w src dst e ⟨ρ.blk b, off, none⟩ cp l (elemOfT_eq he) (isU8_eq h2) (isText_eq h1) (fun j hj => by
      have hj2 : j < ds.length := by rw [← m1]; exact hj
      obtain ⟨y, y1, y2⟩ := m2 j _ (List.getElem?_eq_getElem hj2)
      have hy : l[j] = y := by rw [List.getElem?_eq_getElem hj] at y1; exact Option.some.inj y1
      have hcell := (hh.bk b bl hbl).cell (g2 j _ (List.getElem?_eq_getElem hj2))
      rw [Addr.add_lit, hcell]
      have hyb : ds[j] = .v (.int .u8 (y.toNat : Int)) := by
        generalize ds[j] = d at y2
        unfold byteOf at y2
        split at y2
        · obtain ⟨z1, z2⟩ := guardO_eq.1 y2
          cases z2
          rename_i n
          have hle : n ≤ 255 := Nat.le_of_ble_eq_true z1
          have : (UInt8.ofNat n).toNat = n := by simp; omega
          rw [this]
          rfl
        · cases y2
      rw [hyb, conc_v, hy])
    rw [hcp, conc_v]
    rw [hk] at this
    exact this
  · exact slowConv_ok hh h
theorem plain_ok (hh : HpOK ρ s.n s.heap w) {b : Builtin} {c : Call} {ty : TypeId} {args : List SV} (h : plainB P b c ty args s = some (v, s')) :
    ∃ ρ' w', (builtin b c.argTypes ty (consts c.args) (args.map (SV.conc ρ)).toArray).run P w = .ok (.value (v.conc ρ')) w' ∧ Eff cx s v s' ρ w ρ' w' := by
  obtain ⟨us, hus, h⟩ := bindO_eq.1 h
  obtain ⟨r, hr, h⟩ := bindO_eq.1 h
  obtain ⟨x, hx, h⟩ := bindO_eq.1 h
  cases h
  obtain ⟨u, rfl, rfl⟩ := asVal_ok hx
  refine ⟨ρ, w, ?_, ⟨[], Ext.refl _ _ _ _ hh.srt, rfl⟩, hh, rfl, Sc.v _ _, rfl⟩
  rw [flatA_conc hus ρ, conc_v]
  exact runP_eq hr w
theorem two_eq {α : Type} {args : List SV} {f : SV → SV → Option α} {r : α} (h : two args f = some r) : ∃ a b, args = [a, b] ∧ f a b = some r := by
  unfold two at h
  split at h
  · exact ⟨_, _, rfl, h⟩
  · cases h
theorem one_eq {α : Type} {args : List SV} {f : SV → Option α} {r : α} (h : one args f = some r) : ∃ a, args = [a] ∧ f a = some r := by
  unfold one at h
  split at h
  · exact ⟨_, rfl, h⟩
  · cases h
theorem builtin_ok (hh : HpOK ρ s.n s.heap w) {b : Builtin} {c : Call} {ty : TypeId} {args : List SV} (hs : ∀ x ∈ args, Sc s.n x) (h : builtinS P cx b c ty args s = some (v, s')) :
    ∃ ρ' w', (builtin b c.argTypes ty (consts c.args) (args.map (SV.conc ρ)).toArray).run P w = .ok (.value (v.conc ρ')) w' ∧ Eff cx s v s' ρ w ρ' w' := by
  unfold builtinS at h
  split at h
  · obtain ⟨p, q, rfl, h⟩ := two_eq h
    obtain ⟨t, ht, h⟩ := bindO_eq.1 h
    obtain ⟨u, hu, h⟩ := bindO_eq.1 h
    obtain ⟨ρ', w', h1, h2⟩ := append_ok (ty := ty) hh ht hu (hs p (by simp)) h
    exact ⟨ρ', w', by show ((do pure (Next.value (← Builtin.append_ c.argTypes ty #[p.conc ρ, q.conc ρ]))) : Sem Next).run P w = _; exact exec_v h1, h2⟩
  · obtain ⟨p, q, rfl, h⟩ := two_eq h
    obtain ⟨t, ht, h⟩ := bindO_eq.1 h
    obtain ⟨ρ', w', h1, h2⟩ := copy_ok (ty := ty) hh ht h
    exact ⟨ρ', w', by show ((do pure (Next.value (← Builtin.copy_ c.argTypes ty #[p.conc ρ, q.conc ρ]))) : Sem Next).run P w = _; exact exec_v h1, h2⟩
  · obtain ⟨p, rfl, h⟩ := one_eq h
    obtain ⟨t, ht, h⟩ := bindO_eq.1 h
    obtain ⟨r, hr, h⟩ := bindO_eq.1 h
    cases h
    obtain ⟨h1, h2⟩ := len_ok (w := w) (ρ := ρ) (n := s.n) (ty := ty) hr
    refine ⟨ρ, w, ?_, ⟨[], Ext.refl _ _ _ _ hh.srt, rfl⟩, hh, rfl, h2, rfl⟩
    show ((do pure (Next.value (← Builtin.len_ c.argTypes ty #[p.conc ρ]))) : Sem Next).run P w = _
    refine exec_v ?_
    have : Builtin.len_ c.argTypes ty #[p.conc ρ] = Builtin.len_ #[t] ty #[p.conc ρ] := by simp [Builtin.len_, ht]
    exact (congrArg (fun z => Sem.run P z w) this).trans h1
  all_goals first
    | exact plain_ok hh h
    | (cases h; done)
end Go.Ex
