/- Mem, NatC, Held: texts of one claim laid together. -/
import Derived.WalkKit
import Derived.WalkSpells
import Derived.WalkLawsBesides
import Derived.Maps.AppendAt
import Derived.ArgAppend
import Derived.Lib.SlBytesConst
import Derived.Lib.ConvBytes
import Derived.StillTailTactics
import Derived.Deep.AppendLies
import Derived.Deep.Draws
import Derived.BigQuiet
import Derived.Deep.QuietTactic
import Derived.Deep.LoopGhost
import Derived.Lib.Strings
import Derived.Test.YtneakieigiafpaaGreatDoorRows
import Derived.Deep.RegionHeld3
/- Words on memory that the walks share: a slice that reads as a list of cells ('Row'), a slice value of the call's own ('World.ownsRow' of the library, carried over the usual steps), appends whose source may be nil, and the cells of a world behind a step that keeps what was there. -/
namespace Go.Proofs.YtneakieigiafpaaGreatDoor
open Go.RowKit

theorem hide {p : Prop} (h : p) : Hid p := h

/-- What the world w' keeps of w: every block that was there. -/
abbrev Kept (w w' : World) : Prop := Below w.heap.size w w'

theorem Kept.cells {w w' : World} (h : Kept w w') : ∀ b o, b < w.heap.size → w'.cell? ⟨b, o, none⟩ = w.cell? ⟨b, o, none⟩ := fun _ _ hb => h.cell (p := ⟨_, _, none⟩) hb
theorem Kept.thaw {w w' : World} (h : Kept w w') : ∀ b o, b < w.heap.size → w'.frozen? ⟨b, o, none⟩ = w.frozen? ⟨b, o, none⟩ := fun _ _ hb => h.frozen (p := ⟨_, _, none⟩) hb
theorem Kept.trans' {a b c : World} (h : Kept a b) (k : Kept b c) : Kept a c := h.trans (k.mono h.size)
theorem drewN_below {B : Nat} {a w : World} (h : Below B a w) (n : Nat) : Below B a (w.drewN n) := ⟨h.os, h.tape, h.output, h.size, h.block⟩

theorem lt_of_cell {w : World} {b o : Nat} {v : Value} (h : w.cell? ⟨b, o, none⟩ = some v) : b < w.heap.size := by
  rcases Nat.lt_or_ge b w.heap.size with hlt | hge
  · exact hlt
  · simp [World.cell?, Array.getElem?_eq_none hge] at h

/-- The cells xs lie one behind the other from address A on; where there is none, A says nothing. -/
def Row (w : World) (A : Option Addr) (xs : List Value) : Prop :=
  xs = [] ∨ ∃ b off, A = some ⟨b, off, none⟩ ∧ ∀ k u, xs[k]? = some u → w.cell? ⟨b, off + k, none⟩ = some u

section
variable {w w' : World} {A : Option Addr} {xs : List Value}
theorem Row.nil : Row w A [] := .inl rfl
theorem Row.keep (h : Row w A xs) (hk : ∀ b o, b < w.heap.size → w'.cell? ⟨b, o, none⟩ = w.cell? ⟨b, o, none⟩) : Row w' A xs := by
  rcases h with h | ⟨b, off, hA, hc⟩
  · exact .inl h
  · exact .inr ⟨b, off, hA, fun k u hu => (hk _ _ (lt_of_cell (hc k u hu))).trans (hc k u hu)⟩
theorem Row.kept (h : Row w A xs) (hk : Kept w w') : Row w' A xs := h.keep hk.cells
theorem Row.drewN (h : Row w A xs) (n : Nat) : Row (w.drewN n) A xs := h
theorem Row.drew (h : Row w A xs) : Row w.drew A xs := h
theorem Row.alloc (h : Row w A xs) (o : Obj) : Row (w.alloc o) A xs := h.kept ((Below.refl _ _).alloc (Nat.le_refl _) o)
theorem Row.lt (h : Row w A xs) (hne : xs ≠ []) : ∃ b off, A = some ⟨b, off, none⟩ ∧ b < w.heap.size ∧ ∀ k u, xs[k]? = some u → w.cell? ⟨b, off + k, none⟩ = some u := by
  rcases h with h | ⟨b, off, hA, hc⟩
  · exact absurd h hne
  · cases xs with
    | nil => exact absurd rfl hne
    | cons x r => exact ⟨b, off, hA, lt_of_cell (hc 0 x rfl), hc⟩
/-- The address of cell k, and what it holds. -/
theorem Row.at_ (h : Row w A xs) {k : Nat} (hk : k < xs.length) : ∃ b off, A = some ⟨b, off, none⟩ ∧ w.cell? ⟨b, off + k, none⟩ = some xs[k] := by
  rcases h with h | ⟨b, off, hA, hc⟩
  · subst h; simp at hk
  · exact ⟨b, off, hA, hc k _ (List.getElem?_eq_getElem hk)⟩
theorem Row.take (h : Row w A xs) (k : Nat) : Row w A (xs.take k) := by
  rcases h with h | ⟨b, off, hA, hc⟩
  · subst h; exact .inl (by simp)
  · refine .inr ⟨b, off, hA, fun j u hu => ?_⟩
    rw [List.getElem?_take] at hu
    split at hu
    · exact hc j u hu
    · cases hu
theorem Row.drop (h : Row w A xs) (k : Nat) : Row w (A.map (·.add k)) (xs.drop k) := by
  rcases h with h | ⟨b, off, hA, hc⟩
  · subst h; exact .inl (by simp)
  · subst hA
    refine .inr ⟨b, off + k, ?_, fun j u hu => ?_⟩
    · simp only [Option.map_some, Addr.add]; split <;> simp_all
    · rw [List.getElem?_drop] at hu
      rw [Nat.add_assoc]; exact hc _ u hu
theorem Row.setCell {p : Addr} (h : Row w A xs) (hne : ∀ b off, A = some ⟨b, off, none⟩ → b ≠ p.block) (u : Value) : Row (w.setCell p u) A xs := by
  rcases h with h | ⟨b, off, hA, hc⟩
  · exact .inl h
  · exact .inr ⟨b, off, hA, fun k v hv => by
      rw [World.cell?_setCell_other w p _ u (fun e => hne b off hA (by rw [e]))]
      exact hc k v hv⟩
theorem Row.grown {row : Option Nat} (h : Row w A xs) (hg : w.grownBy w' row) (hne : ∀ b off, A = some ⟨b, off, none⟩ → some b ≠ row) : Row w' A xs := by
  rcases h with h | ⟨b, off, hA, hc⟩
  · exact .inl h
  · refine .inr ⟨b, off, hA, fun k v hv => ?_⟩
    have h0 := hc k v hv
    rw [hg.cell_far ⟨b, off + k, none⟩ (lt_of_cell h0) (hne b off hA)]
    exact h0
theorem Row.new (w : World) (cs : Array Value) (t : TypeId) (fr : Nat × Nat) (xs : List Value) (h : cs.toList = xs) : Row (w.alloc (.cells cs t fr)) (some ⟨w.heap.size, 0, none⟩) xs := by
  right
  refine ⟨w.heap.size, 0, rfl, fun k u hu => ?_⟩
  rw [World.cell?_alloc_mark, Nat.zero_add]
  subst h
  simpa using hu
theorem Row.new_at (w : World) (cs : Array Value) (t : TypeId) (fr : Nat × Nat) (xs : List Value) (b : Nat) (h : cs.toList = xs) (hb : b = w.heap.size) : Row (w.alloc (.cells cs t fr)) (some ⟨b, 0, none⟩) xs := by
  subst hb; exact Row.new w cs t fr xs h
end

/-- The slice value v, of n elements of 'size' cells each, is the call's own: its room can be written, nothing else lies there, and its cells are xs. -/
def Own (w : World) (base size : Nat) (v : Value) (n : Nat) (xs : List Value) : Prop :=
  xs.length = n * size ∧ ((v = .slice none 0 0 ∧ n = 0) ∨
    ∃ g off cap, v = .slice (some ⟨g, off, none⟩) n cap ∧ base ≤ g ∧ g < w.heap.size ∧ n ≤ cap ∧ cap ≤ maxLen ∧ (∀ j u, xs[j]? = some u → w.cell? ⟨g, off + j, none⟩ = some u) ∧
      (∀ j, j < cap * size → (w.cell? ⟨g, off + j, none⟩).isSome = true ∧ w.frozen? ⟨g, off + j, none⟩ = false))

section
variable {w w' : World} {base base' size n : Nat} {v : Value} {xs : List Value}
theorem Own.nil (w : World) (base size : Nat) : Own w base size (.slice none 0 0) 0 [] := ⟨by simp, .inl ⟨rfl, rfl⟩⟩
theorem Own.of_row {e : TypeId} (h : w.ownsRow base e size v n xs) : Own w base size v n xs := by
  refine ⟨h.1, ?_⟩
  rcases h.2 with h0 | ⟨g, cap, cur, rfl, hb, hh, hnc, hcm, hcs, htake⟩
  · exact .inl h0
  · refine .inr ⟨g, 0, cap, rfl, hb, (Array.getElem?_eq_some_iff.1 hh).1, hnc, hcm, fun j u hu => ?_, fun j hj => ?_⟩
    · have := h.cells (g := g) (by simp [Value.ownBlock]) j u hu
      rw [Nat.zero_add]
      have h2 : (⟨g, 0, none⟩ : Addr).add j = ⟨g, j, none⟩ := by unfold Addr.add; split <;> simp_all
      rwa [h2] at this
    · rw [Nat.zero_add, cell_of_row w g j cur e (0, 0) hh]
      refine ⟨?_, ?_⟩
      · have : j < cur.size := by omega
        simp [this]
      · simp [World.frozen?, hh]
/-- A new block, marked or not behind its last cell. -/
theorem Own.new (w : World) (cs : Array Value) (e : TypeId) (fr : Nat × Nat) (n size : Nat) (xs : List Value) (base b : Nat) (hb : b = w.heap.size) (hbase : base ≤ b) (hm : n ≤ maxLen) (hs : cs.size = n * size) (hx : cs.toList = xs) (hf : cs.size ≤ fr.1 ∨ fr.2 = 0) :
    Own (w.alloc (.cells cs e fr)) base size (.slice (some ⟨b, 0, none⟩) n n) n xs := by
  subst hb
  refine ⟨by rw [← hx, Array.length_toList, hs], .inr ⟨w.heap.size, 0, n, rfl, hbase, by simp, Nat.le_refl _, hm, fun j u hu => ?_, fun j hj => ?_⟩⟩
  · rw [World.cell?_alloc_mark, Nat.zero_add]
    subst hx
    simpa using hu
  · rw [World.cell?_alloc_mark, Nat.zero_add]
    refine ⟨by simp; omega, ?_⟩
    have hh : (w.alloc (.cells cs e fr)).heap[w.heap.size]? = some (.cells cs e fr) := by
      show (w.heap.push _)[w.heap.size]? = _
      simp
    obtain ⟨lo, hi⟩ := fr
    simp only [World.frozen?, hh, Bool.and_eq_false_iff, decide_eq_false_iff_not]
    simp only at hf
    omega
theorem Own.row {A : Option Addr} {c : Nat} (h : Own w base size (.slice A n c) n xs) : Row w A xs := by
  rcases h.2 with ⟨hv, hn⟩ | ⟨g, off, cap, hv, hb, hg, hnc, hcm, hx, hc⟩
  · left
    have := h.1
    subst hn
    exact List.eq_nil_of_length_eq_zero (by simpa using this)
  · injection hv with hA _ _
    exact .inr ⟨g, off, hA, hx⟩
theorem Own.form (h : Own w base size v n xs) : ∃ A c, v = .slice A n c ∧ n ≤ c ∧ c ≤ maxLen ∧ Row w A xs ∧ (∀ a, A = some a → a.spot = none ∧ base ≤ a.block ∧ a.block < w.heap.size) ∧ (A = none → n = 0 ∧ c = 0) := by
  rcases h.2 with ⟨rfl, rfl⟩ | ⟨g, off, cap, rfl, hb, hg, hnc, hcm, hx, hc⟩
  · exact ⟨none, 0, rfl, Nat.le_refl _, Nat.zero_le _, h.row, by simp, by simp⟩
  · exact ⟨some ⟨g, off, none⟩, cap, rfl, hnc, hcm, h.row, by simp; exact ⟨hb, hg⟩, by simp⟩
theorem Own.lt (h : Own w base size v n xs) : ∀ k, v.ownBlock = some k → base ≤ k ∧ k < w.heap.size := by
  intro k hk
  rcases h.2 with ⟨rfl, _⟩ | ⟨g, off, cap, rfl, hb, hg, _⟩
  · simp [Value.ownBlock] at hk
  · simp [Value.ownBlock] at hk
    subst hk
    exact ⟨hb, hg⟩
/-- What is owned stays owned while its own block stays as it is. -/
theorem Own.keep (h : Own w base size v n xs) (hs : w.heap.size ≤ w'.heap.size) (hk : ∀ g, v.ownBlock = some g → ∀ o, w'.cell? ⟨g, o, none⟩ = w.cell? ⟨g, o, none⟩ ∧ w'.frozen? ⟨g, o, none⟩ = w.frozen? ⟨g, o, none⟩) : Own w' base size v n xs := by
  refine ⟨h.1, ?_⟩
  rcases h.2 with h0 | ⟨g, off, cap, rfl, hb, hg, hnc, hcm, hx, hc⟩
  · exact .inl h0
  · refine .inr ⟨g, off, cap, rfl, hb, by omega, hnc, hcm, fun j u hu => ?_, fun j hj => ?_⟩
    · rw [(hk g rfl _).1]; exact hx j u hu
    · rw [(hk g rfl _).1, (hk g rfl _).2]; exact hc j hj
theorem Own.kept (h : Own w base size v n xs) (hk : Kept w w') : Own w' base size v n xs :=
  h.keep hk.size fun g hg _ => ⟨hk.cells _ _ (h.lt g hg).2, hk.thaw _ _ (h.lt g hg).2⟩
theorem Own.alloc (h : Own w base size v n xs) (o : Obj) : Own (w.alloc o) base size v n xs := h.kept ((Below.refl _ _).alloc (Nat.le_refl _) o)
theorem Own.drewN (h : Own w base size v n xs) (k : Nat) : Own (w.drewN k) base size v n xs := h
theorem Own.drew (h : Own w base size v n xs) : Own w.drew base size v n xs := h
theorem Own.less (h : Own w base size v n xs) (hb : base' ≤ base) : Own w base' size v n xs := by
  refine ⟨h.1, ?_⟩
  rcases h.2 with h0 | ⟨g, off, cap, hv, hg, rest⟩
  · exact .inl h0
  · exact .inr ⟨g, off, cap, hv, by omega, rest⟩
theorem Own.grown {row : Option Nat} (h : Own w base size v n xs) (hg : w.grownBy w' row) (hne : ∀ k, v.ownBlock = some k → some k ≠ row) : Own w' base size v n xs :=
  h.keep hg.size fun g hgg o => ⟨hg.cell_far ⟨g, o, none⟩ (h.lt g hgg).2 (hne g hgg), hg.frozen_far ⟨g, o, none⟩ (h.lt g hgg).2 (hne g hgg)⟩
/-- A store elsewhere. -/
theorem Own.far {p : Addr} (h : Own w base size v n xs) (hne : ∀ k, v.ownBlock = some k → k ≠ p.block) (u : Value) : Own (w.setCell p u) base size v n xs :=
  h.keep (by simp [World.setCell]) fun g hg o => by
    have hh : (w.setCell p u).heap[g]? = w.heap[g]? := Below.heap_setCell w p u g (hne g hg)
    exact ⟨World.cell?_of_block (a := ⟨g, o, none⟩) hh, World.frozen?_of_block (a := ⟨g, o, none⟩) hh⟩
/-- The front part of what is owned. -/
theorem Own.front {A : Option Addr} {c : Nat} (h : Own w base size (.slice A n c) n xs) {k : Nat} (hk : k ≤ n) : Own w base size (.slice A k c) k (xs.take (k * size)) := by
  have hks : k * size ≤ n * size := Nat.mul_le_mul_right _ hk
  rcases h.2 with ⟨hv, hn⟩ | ⟨g, off, cap, hv, hb, hg, hnc, hcm, hx, hc⟩
  · injection hv with hA _ hcc
    subst hA; subst hcc
    refine ⟨by rw [List.length_take, h.1]; omega, .inl ⟨?_, by omega⟩⟩
    rw [show k = 0 by omega]
  · injection hv with hA _ hcc
    subst hA; subst hcc
    refine ⟨by rw [List.length_take, h.1]; omega, .inr ⟨g, off, c, rfl, hb, hg, by omega, hcm, fun j u hu => ?_, hc⟩⟩
    rw [List.getElem?_take] at hu
    split at hu
    · exact hx j u hu
    · cases hu
end

/-- Behind an append onto a slice of the call's own: what lay below the base is kept. -/
theorem below_append {B : Nat} {a w w' : World} {base size n : Nat} {v : Value} {xs : List Value} (h : Below B a w) (hown : Own w base size v n xs) (hB : B ≤ base) (hbase : base ≤ w.heap.size) (hg : w.grownBy w' v.ownBlock) : Below B a w' :=
  h.grown hg (by omega) (fun k hk => by have := hown.lt k hk; omega)

theorem grown_setCells (w : World) (g o : Nat) (vs : List Value) : w.grownBy (w.setCells g o vs) (some g) := by
  have hB := World.keptBut_setCells g (may := fun _ => True) vs o w (fun _ _ => trivial)
  have hs : ∀ (vs : List Value) (o : Nat) (w : World), (w.setCells g o vs).heap.size = w.heap.size ∧ (w.setCells g o vs).tape = w.tape := by
    intro vs
    induction vs with
    | nil => intro o w; exact ⟨rfl, rfl⟩
    | cons u us ih =>
      intro o w
      have := ih (o + 1) (w.setCell ⟨g, o, none⟩ u)
      simpa [World.setCells, World.setCell] using this
  refine ⟨hB.1, (hs vs o w).2, hB.2.1, by rw [(hs vs o w).1]; exact Nat.le_refl _, fun k hk hne => ?_⟩
  have hh : ∀ (vs : List Value) (o : Nat) (w : World), (w.setCells g o vs).heap[k]? = w.heap[k]? := by
    intro vs
    induction vs with
    | nil => intro o w; rfl
    | cons u us ih =>
      intro o w
      have := ih (o + 1) (w.setCell ⟨g, o, none⟩ u)
      rw [Below.heap_setCell w ⟨g, o, none⟩ u k (fun e => hne (by rw [e]))] at this
      simpa [World.setCells] using this
  exact hh vs o w

section
variable {P : Program}

theorem run_append_row (w : World) (base : Nat) (t ty e : TypeId) (i : TypeInfo) (z : Value) (size bytes : Nat) (ht : P.underlying t = some (.slice e)) (hi : P.info? e = some i) (hz : i.zero = some z)
    (hsize : i.size = size) (hby : i.bytes = bytes) (hzs : z.cells.size = size) (hsz : 0 < size)
    (v : Value) (n : Nat) (xs : List Value) (hown : Own w base size v n xs)
    (A : Option Addr) (m c : Nat) (news : List Value) (hl : news.length = m * size) (hr : Row w A news) (h1 : ∀ u ∈ news, u.oneCell' = true)
    (h63 : n + m ≤ maxLen) (hbytes : (n + m) * bytes ≤ 140737488355328) (hbase : base ≤ w.heap.size) :
    ∃ v' w', (Builtin.append_ #[t, t] ty #[v, .slice A m c]).run P w = .ok v' w' ∧ Own w' base size v' (n + m) (xs ++ news) ∧ w.grownBy w' v.ownBlock ∧
      (v'.ownBlock = v.ownBlock ∨ ∀ k, v'.ownBlock = some k → w.heap.size ≤ k) := by
  rcases A with _ | ad
  · have hn : news = [] := by
      rcases hr with h | ⟨b, off, h, _⟩
      · exact h
      · cases h
    subst hn
    have hm : m = 0 := by
      have h0 : m * size = 0 := by simpa using hl.symm
      rcases Nat.mul_eq_zero.1 h0 with h | h
      · exact h
      · omega
    subst hm
    refine ⟨v, w, ?_, by simpa using hown, World.grownBy.refl w _, .inl rfl⟩
    rcases hown.2 with ⟨rfl, rfl⟩ | ⟨g, off, cap, rfl, _, _, hnc, _⟩
    · simp [Builtin.append_, run_underlying ht, sizeOf, typeInfo, hi, Builtin.lenOf, Builtin.firstCells]
    · simp [Builtin.append_, run_underlying ht, sizeOf, typeInfo, hi, Builtin.lenOf, Builtin.firstCells, hnc, storeCells]
  · have hcells : ∀ j u, news[j]? = some u → w.cell? (ad.add j) = some u := by
      intro j u hu
      rcases hr with h | ⟨b, off, h, hc⟩
      · subst h; simp at hu
      · injection h with h
        subst h
        have : (⟨b, off, none⟩ : Addr).add j = ⟨b, off + j, none⟩ := by unfold Addr.add; split <;> simp_all
        rw [this]; exact hc j u hu
    rcases hown.2 with ⟨rfl, rfl⟩ | ⟨g, off, cap, rfl, hbg, hg, hnc, hcm, hx, hc⟩
    · have hx : xs = [] := List.eq_nil_of_length_eq_zero (by simpa using hown.1)
      subst hx
      obtain ⟨v', w', hrun, h2, h3, _, h5⟩ := run_append_own_at (P := P) w base t ty e i z size bytes ht hi hz hsize hby hzs hsz (.slice none 0 0) 0 [] (World.ownsRow_nil w base e size) ad m c news hl hcells h1 h63 hbytes hbase
      exact ⟨v', w', hrun, Own.of_row h2, h3, h5.imp id (fun e k hk => by rw [e] at hk; injection hk with hk; omega)⟩
    · by_cases hroom : n + m ≤ cap
      · have hmul : n * size + m * size ≤ cap * size := by rw [← Nat.add_mul]; exact Nat.mul_le_mul_right _ hroom
        have hrun := run_append_room_cells (P := P) w t ty e i ht hi g off n cap ad m c news (by rw [hsize]; exact hl) hcells h1 hroom
          (fun j hj => by rw [hsize, Nat.add_assoc]; exact (hc _ (by omega)).1) (fun j hj => by rw [hsize, Nat.add_assoc]; exact (hc _ (by omega)).2)
        rw [hsize] at hrun
        have hgr := grown_setCells w g (off + n * size) news
        have hsome : ∀ j, j < news.length → (w.cell? ⟨g, off + n * size + j, none⟩).isSome = true := fun j hj => by rw [Nat.add_assoc]; exact (hc _ (by omega)).1
        refine ⟨_, _, hrun, ⟨by rw [List.length_append, hown.1, hl, Nat.add_mul], .inr ⟨g, off, cap, rfl, hbg, Nat.lt_of_lt_of_le hg hgr.size, hroom, hcm, fun j u hu => ?_, fun j hj => ?_⟩⟩, hgr, .inl rfl⟩
        · by_cases hj : j < n * size
          · rw [World.cell?_setCells_out g news _ w ⟨g, off + j, none⟩ (fun _ _ => .inl (by show off + j < off + n * size; omega))]
            rw [List.getElem?_append_left (by rw [hown.1]; exact hj)] at hu
            exact hx j u hu
          · rw [List.getElem?_append_right (by rw [hown.1]; omega), hown.1] at hu
            obtain ⟨q, rfl⟩ : ∃ q, j = n * size + q := ⟨j - n * size, by omega⟩
            have hq : q < news.length := by
              rcases Nat.lt_or_ge q news.length with h | h
              · exact h
              · rw [List.getElem?_eq_none (by omega)] at hu; cases hu
            rw [← Nat.add_assoc, World.cell?_setCells_in g news (off + n * size) w hsome q hq, ← hu, Nat.add_sub_cancel_left, List.getElem?_eq_getElem hq]
        · rw [World.frozen?_setCells]
          refine ⟨?_, (hc j hj).2⟩
          by_cases hin : n * size ≤ j ∧ j < n * size + news.length
          · obtain ⟨q, rfl⟩ : ∃ q, j = n * size + q := ⟨j - n * size, by omega⟩
            rw [← Nat.add_assoc, World.cell?_setCells_in g news (off + n * size) w hsome q (by omega)]
            rfl
          · rw [World.cell?_setCells_out g news _ w ⟨g, off + j, none⟩ (fun _ _ => by show off + j < off + n * size ∨ off + n * size + news.length ≤ off + j; omega)]
            exact (hc j hj).1
      · obtain ⟨v', w', hrun, h2, h3⟩ := run_append_arg_grows (P := P) w t ty e i z size bytes ht hi hz hsize hby hzs hsz ⟨g, off, none⟩ n cap xs hown.1 (fun j u hu => by rw [Addr.add_lit]; exact hx j u hu) ad m c news hl hcells (by omega) h63 hbytes
        have hown2 := (Own.of_row h2)
        refine ⟨v', w', hrun, hown2.less hbase, ⟨h3.os, h3.tape, h3.output, h3.size, fun k hk _ => h3.block k hk (by simp)⟩, ?_⟩
        exact .inr fun k hk => (hown2.lt k hk).1

/-- 'out = append(out, x ..)' where out is nil or the call's own; what is appended may be nil or empty. -/
theorem wpList_append_row (w : World) {ops : Array Oper} {rest : List Oper} {o : Oper} {a : Act} {Q : Exit → Act → World → Prop} (hgd : o.guard = none) (s x : Operand) (t : TypeId)
    (ho : o.op = .call { callee := .builtin .append, args := #[s, x], argTypes := #[t, t] })
    (base : Nat) (e : TypeId) (i : TypeInfo) (z : Value) (size bytes : Nat) (ht : P.underlying t = some (.slice e)) (hi : P.info? e = some i) (hz : i.zero = some z)
    (hsize : i.size = size) (hby : i.bytes = bytes) (hzs : z.cells.size = size) (hsz : 0 < size)
    (v : Value) (n : Nat) (xs : List Value) (hs : a.eval s = v) (hown : Own w base size v n xs)
    (A : Option Addr) (m c : Nat) (news : List Value) (hx : a.eval x = .slice A m c) (hl : news.length = m * size) (hr : Row w A news) (h1 : ∀ u ∈ news, u.oneCell' = true)
    (h63 : n + m ≤ maxLen) (hbytes : (n + m) * bytes ≤ 140737488355328) (hbase : base ≤ w.heap.size)
    (h : ∀ v' w', Own w' base size v' (n + m) (xs ++ news) → w.grownBy w' v.ownBlock → (v'.ownBlock = v.ownBlock ∨ ∀ k, v'.ownBlock = some k → w.heap.size ≤ k) → wpList P ops Q rest (a.put o.dst v') w') : wpList P ops Q (o :: rest) a w := by
  refine wpList_plain hgd fun K hK => ?_
  obtain ⟨v', w', hrun, h2, h3, h4⟩ := run_append_row (P := P) w base t o.type e i z size bytes ht hi hz hsize hby hzs hsz v n xs hown A m c news hl hr h1 h63 hbytes hbase
  unfold Oper.wp execOp
  simp only [ho, resolve, invoke, builtin, Sem.run_bind, Sem.run_pure, Result.andThen_ok, List.map_toArray, List.map_cons, List.map_nil, hs, hx, hrun]
  exact hK _ _ (h v' w' h2 h3 h4)
end

/-- The same, in a region that draws its order. -/
theorem step_append_row {P : Program} (w : World) {ops : Array Oper} {o : Oper} {a : Act} {K : Act → World → Prop} {Q : Exit → Act → World → Prop} {E : Prop} (hgd : o.guard = none) (s x : Operand) (t : TypeId)
    (ho : o.op = .call { callee := .builtin .append, args := #[s, x], argTypes := #[t, t] })
    (base : Nat) (e : TypeId) (i : TypeInfo) (z : Value) (size bytes : Nat) (ht : P.underlying t = some (.slice e)) (hi : P.info? e = some i) (hz : i.zero = some z)
    (hsize : i.size = size) (hby : i.bytes = bytes) (hzs : z.cells.size = size) (hsz : 0 < size)
    (v : Value) (n : Nat) (xs : List Value) (hs : a.eval s = v) (hown : Own w base size v n xs)
    (A : Option Addr) (m c : Nat) (news : List Value) (hx : a.eval x = .slice A m c) (hl : news.length = m * size) (hr : Row w A news) (h1 : ∀ u ∈ news, u.oneCell' = true)
    (h63 : n + m ≤ maxLen) (hbytes : (n + m) * bytes ≤ 140737488355328) (hbase : base ≤ w.heap.size)
    (h : ∀ v' w', Own w' base size v' (n + m) (xs ++ news) → w.grownBy w' v.ownBlock → (v'.ownBlock = v.ownBlock ∨ ∀ k, v'.ownBlock = some k → w.heap.size ≤ k) → K (a.put o.dst v') w') :
    if Region.wanted o (yielded ops a.tmps) = true then Oper.wp P o a w K Q else E := by
  rw [if_pos (by simp [Region.wanted, hgd])]
  obtain ⟨v', w', hrun, h2, h3, h4⟩ := run_append_row (P := P) w base t o.type e i z size bytes ht hi hz hsize hby hzs hsz v n xs hown A m c news hl hr h1 h63 hbytes hbase
  unfold Oper.wp execOp
  simp only [ho, resolve, invoke, builtin, Sem.run_bind, Sem.run_pure, Result.andThen_ok, List.map_toArray, List.map_cons, List.map_nil, hs, hx, hrun]
  exact h v' w' h2 h3 h4

theorem kept_bytes (w : World) (e : TypeId) (s : ByteArray) : Kept w (Lib.bytesWorld w e s) :=
  ⟨rfl, rfl, rfl, by rw [Lib.bytesWorld_size]; omega, fun k hk => Lib.bytesWorld_at_old w e s k hk⟩
theorem own_bytes (w : World) (e : TypeId) (s : ByteArray) (hs : s.size ≤ maxLen) :
    Own (Lib.bytesWorld w e s) w.heap.size 1 (.slice (some ⟨w.heap.size, 0, none⟩) s.size (grownCap w s.size 0 e)) s.size (s.data.toList.map fun b => .int .u8 (b.toNat : Int)) := by
  have hge := grownCap_ge w s.size 0 e
  have hle := grownCap_le_maxLen w s.size 0 e hs
  refine ⟨by simp, .inr ⟨w.heap.size, 0, _, rfl, Nat.le_refl _, by rw [Lib.bytesWorld_size]; omega, hge, hle, fun j u hu => ?_, fun j hj => ?_⟩⟩
  · have hj : j < s.size := by
      rcases Nat.lt_or_ge j s.size with h | h
      · exact h
      · rw [List.getElem?_eq_none (by simpa using h)] at hu; cases hu
    rw [Nat.zero_add, Lib.bytesWorld_cell w e s j hj]
    simp at hu
    obtain ⟨b, hb, rfl⟩ := hu
    simp [List.getD, hb]
  · rw [Nat.zero_add, Nat.mul_one] at *
    have hcs : (Lib.bytesCells w e s).size = grownCap w s.size 0 e := by simp [Lib.bytesCells]; omega
    simp only [World.cell?, World.frozen?, Lib.bytesWorld_at_new]
    simp [hcs]
    omega

/-- '[]byte(s)' : a slice of the call's own. -/
theorem wp_conv_bytes {P : Program} (w : World) {o : Oper} {a : Act} {K : Act → World → Prop} {Q : Exit → Act → World → Prop} (src dst e : TypeId) (x : Operand) (ho : o.op = .convert src dst x) {u : TypeDesc}
    (hs : P.underlying src = some u) (hd : P.underlying dst = some (.slice e)) (he : P.underlying e = some (.int .u8)) (s : ByteArray) (hx : a.eval x = .string s) (hm : s.size ≤ maxLen)
    (h : ∀ A c w', Own w' w.heap.size 1 (.slice A s.size c) s.size (s.data.toList.map fun b => .int .u8 (b.toNat : Int)) → Kept w w' → K (a.put o.dst (.slice A s.size c)) w') : o.wp P a w K Q := by
  unfold Oper.wp execOp
  simp only [ho, hx, Sem.run_bind, Lib.run_convert_string_bytes w src dst e s hs hd he, Result.andThen_ok, Sem.run_pure]
  exact h _ _ _ (own_bytes w e s hm) (kept_bytes w e s)
theorem wpList_conv_bytes {P : Program} (w : World) {ops : Array Oper} {rest : List Oper} {o : Oper} {a : Act} {Q : Exit → Act → World → Prop} (hg : o.guard = none) (src dst e : TypeId) (x : Operand) (ho : o.op = .convert src dst x) {u : TypeDesc}
    (hs : P.underlying src = some u) (hd : P.underlying dst = some (.slice e)) (he : P.underlying e = some (.int .u8)) (s : ByteArray) (hx : a.eval x = .string s) (hm : s.size ≤ maxLen)
    (h : ∀ A c w', Own w' w.heap.size 1 (.slice A s.size c) s.size (s.data.toList.map fun b => .int .u8 (b.toNat : Int)) → Kept w w' → wpList P ops Q rest (a.put o.dst (.slice A s.size c)) w') : wpList P ops Q (o :: rest) a w :=
  wpList_plain hg fun _ hK => wp_conv_bytes w src dst e x ho hs hd he s hx hm fun A c w' h1 h2 => hK _ _ (h A c w' h1 h2)
theorem step_conv_bytes {P : Program} (w : World) {ops : Array Oper} {o : Oper} {a : Act} {K : Act → World → Prop} {Q : Exit → Act → World → Prop} {E : Prop} (hg : o.guard = none) (src dst e : TypeId) (x : Operand) (ho : o.op = .convert src dst x) {u : TypeDesc}
    (hs : P.underlying src = some u) (hd : P.underlying dst = some (.slice e)) (he : P.underlying e = some (.int .u8)) (s : ByteArray) (hx : a.eval x = .string s) (hm : s.size ≤ maxLen)
    (h : ∀ A c w', Own w' w.heap.size 1 (.slice A s.size c) s.size (s.data.toList.map fun b => .int .u8 (b.toNat : Int)) → Kept w w' → K (a.put o.dst (.slice A s.size c)) w') : if Region.wanted o (yielded ops a.tmps) = true then Oper.wp P o a w K Q else E := by
  rw [if_pos (by simp [Region.wanted, hg])]
  exact wp_conv_bytes w src dst e x ho hs hd he s hx hm h

/-- '[]byte' of a constant, where a draw has gone ahead. -/
theorem run_const_drew {P : Program} (w : World) (t e : TypeId) (C : Array Value) (n c : Nat) (ht : P.underlying t = some (.slice e)) (he : P.underlying e = some (.int .u8)) :
    (convert t t (.slice (some ⟨w.heap.size, 0, none⟩) n c)).run P (w.alloc (.cells C e)).drew = .ok (.slice (some ⟨w.heap.size, 0, none⟩) n c) (w.alloc (.cells C e (C.size, C.size + 1))).drew :=
  Lib.run_convert_bytes_const (P := P) w.drew t e C n c ht he

theorem add_zero_addr (b off k : Nat) : (⟨b, off, none⟩ : Addr).add k = ⟨b, off + k, none⟩ := by unfold Addr.add; split <;> simp_all

/-- A slice cut out of a row: its value is known but for the address. -/
theorem slice_ret {A : Option Addr} {n c n' c' : Nat} (h : n = n') (hc : c = c') : Ending.returned (.slice A n c) = Ending.returned (.slice A n' c') := by rw [h, hc]
theorem int_ret {k : IntKind} {a b : Int} (h : a = b) : Ending.returned (.int k a) = Ending.returned (.int k b) := by rw [h]
theorem bool_ret {a b : Bool} (h : a = b) : Ending.returned (.bool a) = Ending.returned (.bool b) := by rw [h]
end Go.Proofs.YtneakieigiafpaaGreatDoor

/- Numbers that may be: nat.may, nat.Check, dyad.Check, gauss.Check, walked. -/
namespace Go.Proofs.YtneakieigiafpaaGreatDoor
open Go.RowKit

/-- May these bytes be a number's? -/
def natB (l : List UInt8) : Bool := decide (l.length ≤ 16384) && !(l.head? == some 0)

theorem head_data (s : ByteArray) (h : 0 < s.size) : s.data.toList.head? = some s[0] := by
  obtain ⟨⟨l⟩⟩ := s
  cases l with
  | nil => exact absurd h (by decide)
  | cons x l => rfl
theorem empty_of_size (s : ByteArray) (h : s.size = 0) : s = ⟨#[]⟩ := by
  obtain ⟨⟨l⟩⟩ := s
  cases l with
  | nil => rfl
  | cons x l => exact absurd h (by show ¬ (l.length + 1 = 0); omega)

set_option maxRecDepth 100000 in
set_option maxHeartbeats 400000 in
theorem natmay_any (s : ByteArray) (b : Nat) (c : Nat) (w : World) (hs : s.size ≤ maxLen) (hc : w.cell? ⟨b, 0, none⟩ = some (.string s)) :
    Calls Tryz.prog 265 #[.slice (some ⟨b, 0, none⟩) 1 c] w fun e w' => e = .returned (.bool (natB s.data.toList)) ∧ w = w' := by
  unfold maxLen at hs
  have hb := lt_of_cell hc
  obtain ⟨N, hN⟩ : ∃ N, N = natB s.data.toList := ⟨_, rfl⟩
  rw [← hN]
  have HN := hide hN
  clear hN
  go_enter Tryz.func265, Tryz.ntmps265
  go_wp2
  go_loop [7] (fun i => ∃ k : Nat, k ≤ 1 ∧ i = .int .i64 k ∧ Hid (k = 1 → N = true)) (fun i => 1 - (intOf i).toNat)
  case atStart => exact ⟨0, by omega, rfl, fun h => by omega⟩
  case round =>
    obtain ⟨k, hk, rfl, HK⟩ := hrel
    rcases (show k = 0 ∨ k = 1 by omega) with rfl | rfl
    · by_cases h1 : 16384 < s.size
      · have hI : (16384 : Int) < s.size := by omega
        go_wp2
        go_ret
        exact ⟨bool_ret (by rw [HN.out]; simp [natB]; omega), rfl⟩
      · by_cases h0 : s.size = 0
        · have hE := empty_of_size s h0
          subst hE
          go_wp2
          go_round
          case rel => exact ⟨1, by omega, by go_num, fun _ => by rw [HN.out]; rfl⟩
          case measure => simp [intOf]
        · have hI : ¬ (16384 : Int) < s.size := by omega
          have hz : s.toList = [] ↔ False := by
            rw [Lib.toList_data]
            constructor
            · intro h; exact h0 (by rw [← ByteArray.size_data, ← Array.length_toList, h]; rfl)
            · exact False.elim
          have hz1 : s.toList.isEmpty = false := by
            cases h : s.toList with
            | nil => exact (hz.1 h).elim
            | cons x l => rfl
          have hp : 0 < s.size := by omega
          have hpI : (0 : Int) < s.size := by omega
          have hh := head_data s hp
          obtain ⟨x, hx⟩ : ∃ x, s[0] = x := ⟨_, rfl⟩
          rw [hx] at hh
          have HH := hide hh
          clear hh
          by_cases hx0 : x = 0
          · subst hx0
            go_wp2
            go_ret
            exact ⟨bool_ret (by rw [HN.out]; simp [natB, HH.out]), rfl⟩
          · have hxI : ((x.toNat : Int) == 0) = false := by
              rw [beq_eq_false_iff_ne]; intro h
              exact hx0 (UInt8.toNat_inj.1 (by simpa using h))
            go_wp2
            go_round
            case rel => exact ⟨1, by omega, by go_num, fun _ => by rw [HN.out]; simp [natB, HH.out, hx0]; omega⟩
            case measure => simp [intOf]
    · have HT := hide (HK.out rfl)
      clear HK
      go_wp2
      go_ret
      exact ⟨bool_ret HT.out.symm, rfl⟩

def natI (l : List UInt8) : Int := if natB l then 0 else 2
set_option maxRecDepth 100000 in
set_option maxHeartbeats 400000 in
theorem natcheck_any (s : ByteArray) (w : World) (hs : s.size ≤ maxLen) : Calls Tryz.prog 230 #[.string s] w fun e w' => e = .returned (.int .i64 (natI s.data.toList)) ∧ Kept w w' := by
  have CM := hide (fun (W : World) (b c : Nat) (hc : W.cell? ⟨b, 0, none⟩ = some (.string s)) => natmay_any s b c W hs hc)
  obtain ⟨N, hN⟩ : ∃ N, N = natB s.data.toList := ⟨_, rfl⟩
  rw [← hN] at CM
  rw [show natI s.data.toList = if N then 0 else 2 by rw [hN]; rfl]
  clear hN
  cases N with
  | true =>
    go_enter Tryz.func230, Tryz.ntmps230
    go_wp2_with (go_at_call 265; refine (CM.out _ _ _ (by simp)).mono ?_; rintro e w1 ⟨rfl, rfl⟩)
    go_ret
    exact ⟨rfl, (Below.refl _ _).alloc (Nat.le_refl _) _⟩
  | false =>
    go_enter Tryz.func230, Tryz.ntmps230
    go_wp2_with (go_at_call 265; refine (CM.out _ _ _ (by simp)).mono ?_; rintro e w1 ⟨rfl, rfl⟩)
    go_ret
    exact ⟨rfl, (Below.refl _ _).alloc (Nat.le_refl _) _⟩

/-! ### Dyads, complex numbers -/
structure DyD where
  neg : Bool
  n : ByteArray
  e : Int
def DyD.ok (d : DyD) : Prop := d.n.size ≤ maxLen ∧ -9223372036854775808 ≤ d.e ∧ d.e ≤ 9223372036854775807
def DyD.cells (d : DyD) : List Value := [.bool d.neg, .string d.n, .int .i64 d.e]
def dyadB (d : DyD) : Bool := (!d.neg && (decide (d.n.data.toList = []) && decide (d.e = 0))) ||
  (!decide (d.n.data.toList = []) && (natB d.n.data.toList && (!decide ((d.n.data.toList.getLast?.getD 0).toNat % 2 = 0) && (decide (-1048576 ≤ d.e) && decide (d.e ≤ 1048576)))))
def dyadI (d : DyD) : Int := if dyadB d then 0 else 2
theorem last_data (s : ByteArray) (h : 0 < s.size) : s.data.toList.getLast? = some (s[s.size - 1]'(by omega)) := by
  obtain ⟨⟨l⟩⟩ := s
  show l.getLast? = _
  rw [List.getLast?_eq_getElem?]
  have hl : 0 < l.length := h
  rw [List.getElem?_eq_getElem (by omega)]
  rfl

set_option maxRecDepth 100000 in
set_option maxHeartbeats 1600000 in
theorem dyadcheck_any (d : DyD) (w : World) (hd : d.ok) : Calls Tryz.prog 177 #[.agg #[.bool d.neg, .string d.n, .int .i64 d.e]] w fun e w' => e = .returned (.int .i64 (dyadI d)) ∧ Kept w w' := by
  obtain ⟨neg, s, x⟩ := d
  obtain ⟨hs, hx0, hx1⟩ := hd
  have CN := hide (fun (W : World) => natcheck_any s W hs)
  simp only at hs hx0 hx1 ⊢
  by_cases h0 : s.size = 0
  · have hE := empty_of_size s h0
    subst hE
    by_cases hx : x = 0
    · subst hx
      cases neg with
      | false =>
        go_enter Tryz.func177, Tryz.ntmps177
        go_wp2
        go_ret
        exact ⟨rfl, (Below.refl _ _).alloc (Nat.le_refl _) _⟩
      | true =>
        go_enter Tryz.func177, Tryz.ntmps177
        go_wp2
        go_ret
        exact ⟨rfl, (Below.refl _ _).alloc (Nat.le_refl _) _⟩
    · have HX := hide hx
      go_enter Tryz.func177, Tryz.ntmps177
      go_wp2
      go_ret
      exact ⟨int_ret (by simp [dyadI, dyadB, HX.out]), (Below.refl _ _).alloc (Nat.le_refl _) _⟩
  · have hp : 0 < s.size := by omega
    have hd0 : s.data.toList ≠ [] := by
      intro h; exact h0 (by rw [← ByteArray.size_data, ← Array.length_toList, h]; rfl)
    have hz : s.toList = [] ↔ False := by
      rw [Lib.toList_data]
      exact ⟨fun h => hd0 h, False.elim⟩
    have hz1 : s.toList.isEmpty = false := by
      cases h : s.toList with
      | nil => exact (hz.1 h).elim
      | cons x l => rfl
    have hne : s ≠ ⟨#[]⟩ := fun h => h0 (by rw [h]; rfl)
    have hpI : (0 : Int) < s.size := by omega
    have k1 : (0 : Int) ≤ (s.size : Int) - 1 := by omega
    have k2 : (s.size : Int) - 1 < s.size := by omega
    have k3 : ((s.size : Int) - 1).toNat = s.size - 1 := by omega
    have k4 : IntKind.i64.wrap ((s.size : Int) - 1) = (s.size : Int) - 1 := IntWalk.i64_in _ (by unfold maxLen at hs; omega)
    have k5 : s.size - 1 < s.size := by omega
    have HD : Hid (dyadI ⟨neg, s, x⟩ = if natB s.data.toList && (!decide ((s[s.size - 1]'k5).toNat % 2 = 0) && (decide (-1048576 ≤ x) && decide (x ≤ 1048576))) then 0 else 2) := by
      show _ = _
      simp [dyadI, dyadB, hd0, last_data s hp]
    obtain ⟨y, hy⟩ : ∃ y, s[s.size - 1]'k5 = y := ⟨_, rfl⟩
    rw [hy] at HD
    cases hn : natB s.data.toList with
    | false =>
      rw [show natI s.data.toList = 2 by simp [natI, hn]] at CN
      rw [hn] at HD
      clear hn hd0
      go_enter Tryz.func177, Tryz.ntmps177
      go_wp2_with (go_at_call 230; refine (CN.out _).mono ?_; rintro e w1 ⟨rfl, hk1⟩; have K1 := hide (((Below.refl _ w).alloc (Nat.le_refl _) (.cells #[.bool neg, .string s, .int .i64 x] 25)).trans (hk1.mono (by simp))); have c1 := (hk1.cells w.heap.size 1 (by simp)); have c2 := (hk1.cells w.heap.size 2 (by simp)); simp at c1 c2; have hz5 := lt_of_cell c1; clear hk1)
      go_ret
      exact ⟨int_ret (by rw [HD.out]; rfl), K1.out⟩
    | true =>
      rw [show natI s.data.toList = 0 by simp [natI, hn]] at CN
      rw [hn] at HD
      clear hn hd0
      go_enter Tryz.func177, Tryz.ntmps177
      go_wp2_with (go_at_call 230; refine (CN.out _).mono ?_; rintro e w1 ⟨rfl, hk1⟩; have K1 := hide (((Below.refl _ w).alloc (Nat.le_refl _) (.cells #[.bool neg, .string s, .int .i64 x] 25)).trans (hk1.mono (by simp))); have c1 := (hk1.cells w.heap.size 1 (by simp)); have c2 := (hk1.cells w.heap.size 2 (by simp)); simp at c1 c2; have hz5 := lt_of_cell c1; clear hk1)
      all_goals
        go_ret
        refine ⟨int_ret ?_, K1.out⟩
        rw [HD.out]
        simp only [beq_iff_eq, beq_eq_false_iff_ne, ne_eq] at *
        split
        · rename_i hq; simp at hq; first | rfl | omega
        · rename_i hq; simp at hq; first | rfl | omega

/-! ### Exact complex numbers; windows; grids -/
def gaussI (p q : DyD) : Int := if dyadB p && dyadB q then 0 else 2
set_option maxRecDepth 100000 in
set_option maxHeartbeats 800000 in
theorem gausscheck_any (p q : DyD) (w : World) (hp : p.ok) (hq : q.ok) :
    Calls Tryz.prog 119 #[.agg #[.bool p.neg, .string p.n, .int .i64 p.e, .bool q.neg, .string q.n, .int .i64 q.e]] w fun e w' => e = .returned (.int .i64 (gaussI p q)) ∧ Kept w w' := by
  have CP := hide (fun (W : World) => dyadcheck_any p W hp)
  have CQ := hide (fun (W : World) => dyadcheck_any q W hq)
  clear hp hq
  cases hp : dyadB p with
  | false =>
    rw [show dyadI p = 2 by simp [dyadI, hp]] at CP
    have HP := hide hp
    clear hp
    go_enter Tryz.func119, Tryz.ntmps119
    go_wp2_with (go_at_call 177; refine (CP.out _).mono ?_; rintro e w1 ⟨rfl, hk1⟩)
    go_ret
    exact ⟨int_ret (by simp [gaussI, HP.out]), ((Below.refl _ w).alloc (Nat.le_refl _) _).trans (hk1.mono (by simp))⟩
  | true =>
    rw [show dyadI p = 0 by simp [dyadI, hp]] at CP
    have HP := hide hp
    clear hp
    cases hq : dyadB q with
    | false =>
      rw [show dyadI q = 2 by simp [dyadI, hq]] at CQ
      have HQ := hide hq
      clear hq
      go_enter Tryz.func119, Tryz.ntmps119
      go_wp2_with fail
      refine (CP.out _).mono ?_
      rintro e w1 ⟨rfl, hk1⟩
      have c3 := (hk1.cells w.heap.size 3 (by simp))
      have c4 := (hk1.cells w.heap.size 4 (by simp))
      have c5 := (hk1.cells w.heap.size 5 (by simp))
      simp at c3 c4 c5
      have hz5 := lt_of_cell c3
      have K1 := hide (((Below.refl _ w).alloc (Nat.le_refl _) (.cells #[.bool p.neg, .string p.n, .int .i64 p.e, .bool q.neg, .string q.n, .int .i64 q.e] 27)).trans (hk1.mono (by simp)))
      clear hk1
      go_wp2_with fail
      refine (CQ.out _).mono ?_
      rintro e w2 ⟨rfl, hk2⟩
      go_wp2_with fail
      go_ret
      exact ⟨int_ret (by simp [gaussI, HQ.out]), K1.out.trans (hk2.mono K1.out.size)⟩
    | true =>
      rw [show dyadI q = 0 by simp [dyadI, hq]] at CQ
      have HQ := hide hq
      clear hq
      go_enter Tryz.func119, Tryz.ntmps119
      go_wp2_with fail
      refine (CP.out _).mono ?_
      rintro e w1 ⟨rfl, hk1⟩
      have c3 := (hk1.cells w.heap.size 3 (by simp))
      have c4 := (hk1.cells w.heap.size 4 (by simp))
      have c5 := (hk1.cells w.heap.size 5 (by simp))
      simp at c3 c4 c5
      have hz5 := lt_of_cell c3
      have K1 := hide (((Below.refl _ w).alloc (Nat.le_refl _) (.cells #[.bool p.neg, .string p.n, .int .i64 p.e, .bool q.neg, .string q.n, .int .i64 q.e] 27)).trans (hk1.mono (by simp)))
      clear hk1
      go_wp2_with fail
      refine (CQ.out _).mono ?_
      rintro e w2 ⟨rfl, hk2⟩
      go_wp2_with fail
      go_ret
      exact ⟨int_ret (by simp [gaussI, HP.out, HQ.out]), K1.out.trans (hk2.mono K1.out.size)⟩
end Go.Proofs.YtneakieigiafpaaGreatDoor

/- A drawn region whose operations keep a condition S on the world, but for ONE last operation (a store into a cell that the region has read): the moves of its walk. Beside the library's 'wpAnyH' (which asks S behind every operation). -/
namespace Go.Proofs.YtneakieigiafpaaGreatDoor
section
variable {P : Program} {ops : Array Oper} {Q : Exit → Act → World → Prop} {md : Region.Mode} {S : World → Prop} {last : Nat}

/-- Whatever order is picked from here on, and S holds behind every operation that is carried out, but for the one numbered 'last'. -/
def wpAnyL (P : Program) (md : Region.Mode) (ops : Array Oper) (Q : Exit → Act → World → Prop) (S : World → Prop) (last : Nat) : Nat → Array Bool → Act → World → Prop
  | 0, listed, a, w => Region.ready md ops listed = [] ∧ Q .normal a w
  | fuel + 1, listed, a, w =>
    (Region.ready md ops listed = [] → Q .normal a w) ∧
    ∀ i ∈ Region.ready md ops listed, wpOp P ops Q i (fun a' w' => (i ≠ last → S w') ∧ wpAnyL P md ops Q S last fuel (listed.setIfInBounds i true) a' w') a w

theorem wpAny_of_L : ∀ (fuel : Nat) (listed : Array Bool) (a : Act) (w : World), wpAnyL P md ops Q S last fuel listed a w → wpAny P md ops Q fuel listed a w
  | 0, _, _, _, h => h
  | fuel + 1, _, _, _, h => ⟨h.1, fun i hi => wpOp_mono (fun a' w' h' => wpAny_of_L fuel _ a' w' h'.2) (h.2 i hi)⟩

/-- The last operation waits for operation i. -/
def waitsFor (md : Region.Mode) (ops : Array Oper) (last i : Nat) : Bool := match ops[last]? with
  | none => true
  | some o => o.after.any fun e => Region.binds md e && e.on == i

theorem not_ready_of_waits {listed : Array Bool} {i : Nat} (hw : waitsFor md ops last i = true) (hi : i ∈ Region.ready md ops listed) : last ∉ Region.ready md ops listed := by
  intro hl
  obtain ⟨_, o, ho, hall⟩ := mem_ready.1 hl
  simp only [waitsFor, ho, Array.any_eq_true] at hw
  obtain ⟨k, hk, he⟩ := hw
  simp only [Bool.and_eq_true, beq_iff_eq] at he
  have h1 := hall _ (Array.getElem_mem hk) he.1
  have h0 := (mem_ready.1 hi).1
  rw [he.2] at h1
  rcases Nat.lt_or_ge i listed.size with h' | h'
  · simp [h'] at h0 h1; rw [h0] at h1; cases h1
  · simp [Array.getElem?_eq_none h'] at h1

theorem wpAnyL_first {i : Nat} {oi : Oper} {v : Value} (hi : ops[i]? = some oi) (hsel : ∀ (j : Nat) (o : Oper) cs b, ops[j]? = some o → o.op ≠ .select cs b)
    (hQ : ∀ c a w, Q (.panic c) (a.put oi.dst v) w → Q (.panic c) a w) (hlast : waitsFor md ops last i = true) (hil : i ≠ last) :
    ∀ (fuel : Nat) (listed : Array Bool) (a : Act) (w : World),
      (∀ j oj, ops[j]? = some oj → j ≠ i → listed.getD j true = false → (∀ e ∈ oj.after, Region.binds md e = true → e.on ≠ i) → oi.apart ops oj = true) →
      i ∈ Region.ready md ops listed → YieldsIf P ops S oi v a → S w →
      wpAnyL P md ops Q S last fuel (listed.setIfInBounds i true) (a.put oi.dst v) w → wpAnyL P md ops Q S last (fuel + 1) listed a w := by
  intro fuel
  induction fuel with
  | zero =>
    intro listed a w _ hr hy hS H
    refine ⟨fun h => (by rw [h] at hr; cases hr), fun j hj => ?_⟩
    by_cases hji : j = i
    · subst hji; exact hy.wpOp hi hS ⟨fun _ => hS, H⟩
    · have := ready_mono hj hji
      rw [H.1] at this
      cases this
  | succ fuel ih =>
    intro listed a w hfree hr hy hS H
    refine ⟨fun h => (by rw [h] at hr; cases hr), fun j hj => ?_⟩
    by_cases hji : j = i
    · subst hji; exact hy.wpOp hi hS ⟨fun _ => hS, H⟩
    · have hjl : j ≠ last := fun e => not_ready_of_waits hlast hr (e ▸ hj)
      have h1 := H.2 j (ready_mono hj hji)
      obtain ⟨hjun, oj, hoj, hall⟩ := mem_ready.1 hj
      have hnot : ∀ e ∈ oj.after, Region.binds md e = true → e.on ≠ i := fun e he hb heq => by
        have h1 := hall e he hb
        have h0 := (mem_ready.1 hr).1
        rw [heq] at h1
        rcases Nat.lt_or_ge i listed.size with h' | h'
        · simp [h'] at h0 h1; rw [h0] at h1; cases h1
        · simp [Array.getElem?_eq_none h'] at h1
      have h2 := wpOp_putIf hoj (hfree j oj hoj hji hjun hnot) (fun cs b => hsel i oi cs b hi) (fun cs b => hsel j oj cs b hoj) hQ hy h1
      have hfree' : ∀ k ok, ops[k]? = some ok → k ≠ i → (listed.setIfInBounds j true).getD k true = false →
          (∀ e ∈ ok.after, Region.binds md e = true → e.on ≠ i) → oi.apart ops ok = true := fun k ok hk hki hun hno => by
        refine hfree k ok hk hki ?_ hno
        by_cases hjk : j = k
        · subst hjk; exact hjun
        · rw [getD_set_ne true hjk] at hun; exact hun
      refine wpOp_mono (fun a' w' h3 => ⟨fun _ => h3.2.1 hjl, ih (listed.setIfInBounds j true) a' w' hfree' (ready_mono hr (Ne.symm hji)) h3.1 (h3.2.1 hjl) ?_⟩) h2
      rw [Array.setIfInBounds_comm _ _ hji]
      exact h3.2.2

theorem wpAnyL_take {i : Nat} {oi : Oper} {v : Value} (d : Option Tmp) {fuel : Nat} {listed : Array Bool} {a : Act} {w : World} (hi : ops[i]? = some oi) (hd : oi.dst = d)
    (hs : Region.noSelect ops = true) (hf : Region.free md ops listed i = true) (hr : (Region.ready md ops listed).contains i = true) (hl : (waitsFor md ops last i && i != last) = true)
    (hQ : ∀ c a w, Q (.panic c) (a.put d v) w → Q (.panic c) a w) (hy : YieldsIf P ops S oi v a) (hS : S w)
    (h : wpAnyL P md ops Q S last fuel (listed.setIfInBounds i true) (a.put d v) w) : wpAnyL P md ops Q S last (fuel + 1) listed a w := by
  simp only [Bool.and_eq_true, bne_iff_ne] at hl
  subst hd
  exact wpAnyL_first hi (Region.noSelect_spec hs) hQ hl.1 hl.2 fuel listed a w (Region.free_spec hi hf) (by simpa using hr) hy hS h

/-- The only one that may come up comes up; behind it S is shown anew. -/
theorem wpAnyL_one {i : Nat} {o : Oper} {fuel : Nat} {listed : Array Bool} {a : Act} {w : World} (hr : Region.ready md ops listed = [i]) (ho : ops[i]? = some o)
    (h : ∀ K' : Act → World → Prop, Shut (∀ a w, S w → (S w → wpAnyL P md ops Q S last fuel (listed.setIfInBounds i true) a w) → K' a w) → if Region.wanted o (yielded ops a.tmps) = true then Oper.wp P o a w K' Q else K' (a.put o.dst undef) w) :
    wpAnyL P md ops Q S last (fuel + 1) listed a w := by
  refine ⟨fun h0 => (by rw [hr] at h0; cases h0), fun j hj => ?_⟩
  rw [hr] at hj
  obtain rfl : j = i := by simpa using hj
  exact wpOp_step ho (fun K' hK => h K' (fun a w hS hW => hK a w ⟨fun _ => hS, hW hS⟩))

/-- Two may come up: both ways are walked. -/
theorem wpAnyL_two {i j : Nat} {oi oj : Oper} {fuel : Nat} {listed : Array Bool} {a : Act} {w : World} (hr : Region.ready md ops listed = [i, j]) (hi : ops[i]? = some oi) (hj : ops[j]? = some oj)
    (h1 : ∀ K' : Act → World → Prop, Shut (∀ a w, S w → (S w → wpAnyL P md ops Q S last fuel (listed.setIfInBounds i true) a w) → K' a w) → if Region.wanted oi (yielded ops a.tmps) = true then Oper.wp P oi a w K' Q else K' (a.put oi.dst undef) w)
    (h2 : ∀ K' : Act → World → Prop, Shut (∀ a w, S w → (S w → wpAnyL P md ops Q S last fuel (listed.setIfInBounds j true) a w) → K' a w) → if Region.wanted oj (yielded ops a.tmps) = true then Oper.wp P oj a w K' Q else K' (a.put oj.dst undef) w) :
    wpAnyL P md ops Q S last (fuel + 1) listed a w := by
  refine ⟨fun h0 => (by rw [hr] at h0; cases h0), fun k hk => ?_⟩
  rw [hr] at hk
  rcases (by simpa using hk : k = i ∨ k = j) with rfl | rfl
  · exact wpOp_step hi (fun K' hK => h1 K' (fun a w hS hW => hK a w ⟨fun _ => hS, hW hS⟩))
  · exact wpOp_step hj (fun K' hK => h2 K' (fun a w hS hW => hK a w ⟨fun _ => hS, hW hS⟩))

/-- The last one: nothing is asked of the world behind it. -/
theorem wpAnyL_end {o : Oper} {fuel : Nat} {listed : Array Bool} {a : Act} {w : World} (hr : Region.ready md ops listed = [last]) (ho : ops[last]? = some o)
    (h : ∀ K' : Act → World → Prop, Shut (∀ a w, wpAnyL P md ops Q S last fuel (listed.setIfInBounds last true) a w → K' a w) → if Region.wanted o (yielded ops a.tmps) = true then Oper.wp P o a w K' Q else K' (a.put o.dst undef) w) :
    wpAnyL P md ops Q S last (fuel + 1) listed a w := by
  refine ⟨fun h0 => (by rw [hr] at h0; cases h0), fun j hj => ?_⟩
  rw [hr] at hj
  obtain rfl : j = last := by simpa using hj
  exact wpOp_step ho (fun K' hK => h K' (fun a w hW => hK a w ⟨fun hne => absurd rfl hne, hW⟩))

theorem wpAnyL_done {listed : Array Bool} {a : Act} {w : World} (hr : Region.ready md ops listed = []) (h : Q .normal a w) : ∀ fuel, wpAnyL P md ops Q S last fuel listed a w
  | 0 => ⟨hr, h⟩
  | _ + 1 => ⟨fun _ => h, by rw [hr]; simp⟩

theorem wp_region_L {id : Nat} {a : Act} {w : World} (S : World → Prop) (last : Nat) (hm : P.follows .mixedOrders = true) (hS : S w.drew)
    (h : S w.drew → wpAnyL P .any ops Q S last ops.size (Array.replicate ops.size false) a w.drew) : (Code.region id ops true).wp P Q a w :=
  wp_region_any hm (wpAny_of_L _ _ _ _ (h hS))
end
end Go.Proofs.YtneakieigiafpaaGreatDoor
