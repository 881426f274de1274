/- CopyS, Met, JoinM: texts of one claim laid together. -/
import Derived.Test.YtneakieigiafpaaGreatDoorJoinL
import Derived.Laws.CopyRow
import Derived.Laws.MakeOwn
/- copy of elements of several cells. -/
namespace Go.Proofs.YtneakieigiafpaaGreatDoor
open Go.RowKit

theorem run_copy_rowS (P : Program) (w : World) (dT sT ty elem : TypeId) (g o dLen dCap : Nat) (a : Addr) (sLen sCap : Nat) (cur : Array Value) (t : TypeId) (cs : List Value) (z k : Nat)
    (hu : P.underlying dT = some (.slice elem)) (hs : (P.info? elem).map (·.size) = some z)
    (hg : w.heap[g]? = some (.cells cur t (0, 0))) (hk : k = Nat.min sLen dLen) (hn : cs.length = k * z)
    (hsrc : ∀ j v, cs[j]? = some v → w.cell? (a.add j) = some v) (hfit : o + cs.length ≤ cur.size) (h1 : ∀ v ∈ cs, v.oneCell' = true) :
    (Builtin.copy_ #[dT, sT] ty #[.slice (some ⟨g, o, none⟩) dLen dCap, .slice (some a) sLen sCap]).run P w =
      .ok (goInt k) (w.setRow g (cur.toList.take o ++ cs ++ cur.toList.drop (o + cs.length)).toArray) := by
  have hl := run_loadCells_list (P := P) w a cs hsrc
  have hst := run_storeCells_at P g o t cs 0 cur w hg (by simpa using hfit) h1
  cases hq : P.info? elem with
  | none => simp [hq] at hs
  | some i =>
    have hi : i.size = z := by simpa [hq] using hs
    rw [hn] at hl
    simp [Builtin.copy_, run_underlying hu, Builtin.lenOf, Builtin.firstCells, sizeOf, typeInfo, hq, hi, ← hk, hl, hst]
end Go.Proofs.YtneakieigiafpaaGreatDoor

/- slices.Contains of truths that are all true, walked. -/
namespace Go.Proofs.YtneakieigiafpaaGreatDoor
open Go.RowKit

def metV (N : Nat) : List Value := List.replicate N (.bool true)
theorem metV_at {W : World} {b N k : Nat} (h : ∀ j, j < N → W.cell? ⟨b, j, none⟩ = some (.bool true)) (hk : k < N) : W.cell? ⟨b, k, none⟩ = some (.bool true) := h k hk

set_option maxRecDepth 100000 in
set_option maxHeartbeats 400000 in
theorem index_met (b N : Nat) (w : World) (hN : N ≤ 1000000) (h : ∀ j, j < N → w.cell? ⟨b, j, none⟩ = some (.bool true)) :
    Calls Tryz.prog 144 #[.slice (some ⟨b, 0, none⟩) N N, .bool false] w fun e w' => e = .returned (.int .i64 (-1)) ∧ w' = w := by
  have H := hide h
  clear h
  go_enter Tryz.func144, Tryz.ntmps144
  go_wp2
  go_loopg [5, 8] N (fun gh i5 ix wr => ∃ k : Nat, k + gh = N ∧ ix = .int .i64 k ∧ wr = w)
  case atStart => exact ⟨0, by omega, rfl, rfl⟩
  case round =>
    obtain ⟨k, hkg, rfl, rfl⟩ := hrel
    cases gk with
    | zero =>
      have hge : ¬ (k : Int) < N := by omega
      go_wp2
      go_ret
      exact ⟨rfl, rfl⟩
    | succ gh =>
      have hlt : (k : Int) < N := by omega
      have c0 := H.out k (by omega)
      go_wp2
      all_goals
        go_roundg gh
        case measure => omega
        case rel => exact ⟨k + 1, by omega, by go_num, rfl⟩

set_option maxRecDepth 100000 in
set_option maxHeartbeats 400000 in
theorem contains_met (b N : Nat) (w : World) (hN : N ≤ 1000000) (h : ∀ j, j < N → w.cell? ⟨b, j, none⟩ = some (.bool true)) :
    Calls Tryz.prog 73 #[.slice (some ⟨b, 0, none⟩) N N, .bool false] w fun e w' => e = .returned (.bool false) ∧ w' = w := by
  have C := hide (index_met b N w hN h)
  clear h
  go_enter Tryz.func73, Tryz.ntmps73
  go_wp2_with (go_at_call 144; refine C.out.mono ?_; rintro e w1 ⟨rfl, rfl⟩)
  go_ret
  exact ⟨rfl, rfl⟩
end Go.Proofs.YtneakieigiafpaaGreatDoor

/- Laws for tile.Join's walk: copy of witnesses, new rows of witnesses and of truths, what lies in the boxes while tiles are laid. -/
namespace Go.Proofs.YtneakieigiafpaaGreatDoor
open Go.RowKit

theorem witV_drop : ∀ (l : List Wit) (k : Nat), (witV l).drop (k * 3) = witV (l.drop k)
  | _, 0 => by simp
  | [], k + 1 => by simp [witV]
  | x :: l, k + 1 => by
    rw [show (k + 1) * 3 = k * 3 + 1 + 1 + 1 by omega]
    simp [witV, witV_drop l k]
theorem witV_lit (l : List Wit) (i : Nat) (x : Wit) (h : l[i / 3]? = some x) : (witV l)[i]? = some (#[.int .u8 x.t, .int .i64 x.s, .int .i64 x.r][i % 3]!) := by
  obtain ⟨h0, h1, h2⟩ := witV_get l (i / 3) x h
  have e := Nat.div_add_mod' i 3
  have m := Nat.mod_lt i (show 3 > 0 by omega)
  rcases (show i % 3 = 0 ∨ i % 3 = 1 ∨ i % 3 = 2 by omega) with h | h | h
  · rw [h] at e ⊢; rw [show i = i / 3 * 3 by omega, h0]; rfl
  · rw [h] at e ⊢; rw [show i = i / 3 * 3 + 1 by omega, h1]; rfl
  · rw [h] at e ⊢; rw [show i = i / 3 * 3 + 2 by omega, h2]; rfl
/-- What make hands out: witnesses that are nothing. -/
theorem made_wits (M : Nat) : madeCells #[.int .u8 0, .int .i64 0, .int .i64 0] (M * 3) = (witV (List.replicate M wit0)).toArray := by
  apply Array.ext'
  apply List.ext_getElem?
  intro i
  by_cases hi : i < M * 3
  · have h1 := witV_lit (List.replicate M wit0) i wit0 (by rw [List.getElem?_replicate]; simp; omega)
    rw [h1]
    simp [madeCells, hi, wit0]
  · rw [List.getElem?_eq_none (by simp [madeCells]; omega), List.getElem?_eq_none (by rw [witV_length]; simp; omega)]
theorem made_truths (N : Nat) : madeCells #[.bool false] N = (List.replicate N (Value.bool false)).toArray := by
  apply Array.ext'
  apply List.ext_getElem?
  intro i
  by_cases hi : i < N
  · simp [madeCells, hi, Nat.mod_one]
  · rw [List.getElem?_eq_none (by simp [madeCells]; omega), List.getElem?_eq_none (by simp; omega)]
theorem joinC_zero {g : GrD} (hB : GrBnd g) (L : List TilD) : joinC g L 0 0 = List.replicate (g.across * g.down).toNat wit0 := by
  apply List.ext_getElem?
  intro i
  rw [joinC_at, List.getElem?_replicate]
  by_cases h : i < (g.across * g.down).toNat
  · rw [if_pos h, if_pos h]
    obtain ⟨x0, x1, y0, y1⟩ := cell_in hB h
    congr 1
    unfold pickC
    simp only
    have hA := hB.gA.1
    have hw := hB.w0
    have hh := hB.h0
    have a0 : 0 ≤ atN g ((i : Int) % g.across) ((i : Int) / g.across) := by
      unfold atN
      have p1 := Int.ediv_nonneg y0 (show 0 ≤ g.high by omega)
      have p2 := Int.ediv_nonneg x0 (show 0 ≤ g.wide by omega)
      have p3 := Int.mul_nonneg p1 (show 0 ≤ gridA g by omega)
      omega
    generalize atN g ((i : Int) % g.across) ((i : Int) / g.across) = m at *
    rw [if_neg]
    rintro (h | ⟨rfl, h⟩)
    · omega
    · have : rectY g 0 = 0 := by simp [rectY]
      omega
  · rw [if_neg h, if_neg h]

theorem piece_pos {w A r : Int} (hw : 1 ≤ w) (hr : r < (A + w - 1) / w) : r * w + 1 ≤ A := by
  have h1 := Int.mul_ediv_self_le (x := A + w - 1) (k := w) (by omega)
  have h4 : (r + 1) * w ≤ (A + w - 1) / w * w := Int.mul_le_mul_of_nonneg_right (by omega) (by omega)
  rw [Int.add_mul] at h4
  rw [Int.mul_comm] at h1
  omega

theorem wpList_copy_wit {P : Program} (w : World) {ops : Array Oper} {rest : List Oper} {o : Oper} {a : Act} {Q : Exit → Act → World → Prop} (hgd : o.guard = none) (d s : Operand) (dT sT elem : TypeId)
    (ho : o.op = .call { callee := .builtin .copy, args := #[d, s], argTypes := #[dT, sT] })
    (hu : P.underlying dT = some (.slice elem)) (hs3 : (P.info? elem).map (·.size) = some 3) (g f dLen dCap : Nat) (ad : Addr) (sLen sCap : Nat) (C D : List Wit) (t : TypeId)
    (hg : w.heap[g]? = some (.cells (witV C).toArray t (0, 0))) (hd : a.eval d = .slice (some ⟨g, f * 3, none⟩) dLen dCap) (hs : a.eval s = .slice (some ad) sLen sCap)
    (hk : D.length = Nat.min sLen dLen) (hsrc : ∀ j v, (witV D)[j]? = some v → w.cell? (ad.add j) = some v) (hfit : f + D.length ≤ C.length)
    (h : wpList P ops Q rest (a.put o.dst (goInt D.length)) (w.setRow g (witV (C.take f ++ (D ++ C.drop (f + D.length)))).toArray)) : wpList P ops Q (o :: rest) a w := by
  refine wpList_plain hgd fun K hK => ?_
  have hrun := run_copy_rowS P w dT sT o.type elem g (f * 3) dLen dCap ad sLen sCap (witV C).toArray t (witV D) 3 D.length hu hs3 hg hk (witV_length D) hsrc (by rw [witV_length]; simp [witV_length]; omega) (witV_one D)
  have e : (((witV C).toArray.toList.take (f * 3)) ++ witV D ++ (witV C).toArray.toList.drop (f * 3 + (witV D).length)).toArray = (witV (C.take f ++ (D ++ C.drop (f + D.length)))).toArray := by
    rw [witV_length, ← Nat.add_mul]
    simp only [witV_append, witV_take, witV_drop, List.append_assoc]
  rw [e] at hrun
  unfold Oper.wp execOp
  simp only [ho, resolve, invoke, builtin, Sem.run_bind, Sem.run_pure, Result.andThen_ok, List.map_toArray, List.map_cons, List.map_nil, hd, hs, hrun]
  exact hK _ _ h
theorem heap_setRow_same {w : World} {g : Nat} {cur : Array Value} {t : TypeId} {fr : Nat × Nat} (h : w.heap[g]? = some (.cells cur t fr)) (row : Array Value) : (w.setRow g row).heap[g]? = some (.cells row t fr) := by
  obtain ⟨hlt, hv⟩ := Array.getElem?_eq_some_iff.1 h
  unfold World.setRow
  rw [Array.getElem?_modify]
  simp [h]
theorem heap_setRow_other (w : World) (g k : Nat) (row : Array Value) (h : k ≠ g) : (w.setRow g row).heap[k]? = w.heap[k]? := by
  unfold World.setRow
  rw [Array.getElem?_modify]
  simp [Ne.symm h]
theorem below_setRow {B : Nat} {a w : World} {g : Nat} {row : Array Value} (h : Below B a w) (hg : B ≤ g) : Below B a (w.setRow g row) :=
  ⟨h.os, h.tape, h.output, by simpa [World.setRow] using h.size, fun k hk => (heap_setRow_other w g k row (by omega)).trans (h.block k hk)⟩

/-- What lies in the boxes while tiles are laid: the truths of what was met, the window's tile and its cells. -/
structure JAt (X W : World) (mb p q N M : Nat) (a d : Int) (k : Nat) (C : List Wit) (e : TypeId) : Prop where
  met : ∀ j, j < N → W.cell? ⟨mb, j, none⟩ = some (.bool (decide (j < k)))
  free : ∀ j, W.frozen? ⟨mb, j, none⟩ = false
  row : W.heap[p]? = some (.cells (witV C).toArray e (0, 0))
  q0 : W.cell? ⟨q, 0, none⟩ = some (.int .i64 0)
  q1 : W.cell? ⟨q, 1, none⟩ = some (.int .i64 0)
  q2 : W.cell? ⟨q, 2, none⟩ = some (.int .i64 a)
  q3 : W.cell? ⟨q, 3, none⟩ = some (.int .i64 d)
  q4 : W.cell? ⟨q, 4, none⟩ = some (.slice (some ⟨p, 0, none⟩) M M)
  ne : p ≠ q
  mp : mb < p
  mq : mb < q
  pl : p < W.heap.size
  ql : q < W.heap.size
  below : Below mb X W
section
variable {X W W' : World} {mb p q N M k : Nat} {a d : Int} {C : List Wit} {e : TypeId}
theorem JAt.kept (h : JAt X W mb p q N M a d k C e) (hk : Kept W W') : JAt X W' mb p q N M a d k C e := by
  have hm : mb < W.heap.size := Nat.lt_trans h.mp h.pl
  exact ⟨fun j hj => (hk.cells _ _ hm).trans (h.met j hj), fun j => (hk.thaw _ _ hm).trans (h.free j), (hk.block _ h.pl).trans h.row, (hk.cells _ _ h.ql).trans h.q0, (hk.cells _ _ h.ql).trans h.q1, (hk.cells _ _ h.ql).trans h.q2, (hk.cells _ _ h.ql).trans h.q3, (hk.cells _ _ h.ql).trans h.q4, h.ne, h.mp, h.mq, Nat.lt_of_lt_of_le h.pl hk.size, Nat.lt_of_lt_of_le h.ql hk.size, h.below.trans (hk.mono (by omega))⟩
theorem JAt.meet (h : JAt X W mb p q N M a d k C e) (hk : k < N) : JAt X (W.setCell ⟨mb, k, none⟩ (.bool true)) mb p q N M a d (k + 1) C e := by
  have far : ∀ b o, b ≠ mb → (W.setCell ⟨mb, k, none⟩ (.bool true)).cell? ⟨b, o, none⟩ = W.cell? ⟨b, o, none⟩ := fun b o hb => World.cell?_setCell_other W ⟨mb, k, none⟩ ⟨b, o, none⟩ (.bool true) (fun e => hb (by cases e; rfl))
  have hmp := h.mp
  have hmq := h.mq
  refine ⟨fun j hj => ?_, fun j => ?_, ?_, ?_, ?_, ?_, ?_, ?_, h.ne, h.mp, h.mq, by simpa [World.setCell] using h.pl, by simpa [World.setCell] using h.ql, h.below.setCell (Nat.le_refl _) _⟩
  · by_cases e : j = k
    · subst e
      rw [World.cell?_setCell_same _ _ _ (h.met j hj)]; simp
    · rw [World.cell?_setCell_other W ⟨mb, k, none⟩ ⟨mb, j, none⟩ (.bool true) (fun h9 => e (by cases h9; rfl)), h.met j hj]
      congr 2
      rw [decide_eq_decide]; omega
  · rw [World.frozen?_setCell]; exact h.free j
  · rw [Below.heap_setCell W ⟨mb, k, none⟩ (.bool true) p (by show p ≠ mb; omega)]; exact h.row
  · rw [far q 0 (by omega)]; exact h.q0
  · rw [far q 1 (by omega)]; exact h.q1
  · rw [far q 2 (by omega)]; exact h.q2
  · rw [far q 3 (by omega)]; exact h.q3
  · rw [far q 4 (by omega)]; exact h.q4
theorem JAt.lay {C' : List Wit} (h : JAt X W mb p q N M a d k C e) : JAt X (W.setRow p (witV C').toArray) mb p q N M a d k C' e := by
  have far : ∀ b o, b ≠ p → (W.setRow p (witV C').toArray).cell? ⟨b, o, none⟩ = W.cell? ⟨b, o, none⟩ := fun b o hb => World.cell?_of_block (a := ⟨b, o, none⟩) (heap_setRow_other W p b _ hb)
  have hmp := h.mp
  have hq := h.ne
  refine ⟨fun j hj => (far mb j (by omega)).trans (h.met j hj), fun j => (World.frozen?_of_block (a := ⟨mb, j, none⟩) (heap_setRow_other W p mb _ (by omega))).trans (h.free j), heap_setRow_same h.row _, (far q 0 hq.symm).trans h.q0, (far q 1 hq.symm).trans h.q1, (far q 2 hq.symm).trans h.q2, (far q 3 hq.symm).trans h.q3, (far q 4 hq.symm).trans h.q4, h.ne, h.mp, h.mq, by simpa [World.setRow] using h.pl, by simpa [World.setRow] using h.ql, below_setRow h.below (by omega)⟩
theorem JAt.own (h : JAt X W mb p q N M a d k C e) (hM : C.length = M) (hm : M ≤ maxLen) {base : Nat} (hb : base ≤ p) : Own W base 3 (.slice (some ⟨p, 0, none⟩) M M) M (witV C) := by
  have hl : (witV C).length = M * 3 := by rw [witV_length, hM]
  refine ⟨hl, .inr ⟨p, 0, M, rfl, hb, h.pl, Nat.le_refl _, hm, fun j u hu => ?_, fun j hj => ?_⟩⟩
  · rw [Nat.zero_add, cell_of_row W p j _ e (0, 0) h.row]; simpa using hu
  · rw [Nat.zero_add, cell_of_row W p j _ e (0, 0) h.row]
    refine ⟨by simp; omega, by simp [World.frozen?, h.row]⟩
end
theorem alloc_last (w : World) (o : Obj) : (w.alloc o).heap[w.heap.size]? = some o := by
  show (w.heap.push _)[w.heap.size]? = _
  simp
theorem JAt.new1 {X Y : World} {mb p q N M : Nat} {a d : Int} {C : List Wit} {e t : TypeId} (hb : Below mb X Y) (hmet : ∀ j, j < N → Y.cell? ⟨mb, j, none⟩ = some (.bool (decide (j < 0)))) (hfree : ∀ j, Y.frozen? ⟨mb, j, none⟩ = false) (hm : mb < Y.heap.size) (hp : p = Y.heap.size) (hq : q = p + 1) :
    JAt X (((Y.alloc (.cells (witV C).toArray e)).alloc (.cells #[.int .i64 0, .int .i64 0, .int .i64 a, .int .i64 d, .slice (some ⟨p, 0, none⟩) M M] t)).drew) mb p q N M a d 0 C e := by
  subst hp; subst hq
  have k1 : Kept Y (Y.alloc (.cells (witV C).toArray e)) := (Below.refl _ _).alloc (Nat.le_refl _) _
  have k2 := k1.alloc k1.size (.cells #[.int .i64 0, .int .i64 0, .int .i64 a, .int .i64 d, .slice (some ⟨Y.heap.size, 0, none⟩) M M] t)
  have k3 : Kept Y _ := Below.drew k2
  have h1 : (Y.alloc (.cells (witV C).toArray e)).heap[Y.heap.size]? = some (.cells (witV C).toArray e (0, 0)) := alloc_last Y _
  refine ⟨fun j hj => (Kept.cells k3 _ _ hm).trans (hmet j hj), fun j => (Kept.thaw k3 _ _ hm).trans (hfree j), ?_, ?_, ?_, ?_, ?_, ?_, by omega, hm, by omega, by simp; omega, by simp, hb.trans (k3.mono (by omega))⟩
  · exact (Below.heap_alloc _ _ _ (by simp)).trans h1
  all_goals (have e9 : (Y.alloc (.cells (witV C).toArray e)).heap.size = Y.heap.size + 1 := by simp
             rw [← e9]; simp)
theorem JAt.new2 {X Y : World} {mb p q N M : Nat} {a d : Int} {C : List Wit} {e t : TypeId} (hb : Below mb X Y) (hmet : ∀ j, j < N → Y.cell? ⟨mb, j, none⟩ = some (.bool (decide (j < 0)))) (hfree : ∀ j, Y.frozen? ⟨mb, j, none⟩ = false) (hm : mb < Y.heap.size) (hq : q = Y.heap.size) (hp : p = q + 1) :
    JAt X (((Y.alloc (.cells #[.int .i64 0, .int .i64 0, .int .i64 a, .int .i64 d, .slice (some ⟨p, 0, none⟩) M M] t)).alloc (.cells (witV C).toArray e)).drew) mb p q N M a d 0 C e := by
  subst hq; subst hp
  have k1 : Kept Y (Y.alloc (.cells #[.int .i64 0, .int .i64 0, .int .i64 a, .int .i64 d, .slice (some ⟨Y.heap.size + 1, 0, none⟩) M M] t)) := (Below.refl _ _).alloc (Nat.le_refl _) _
  have k2 := k1.alloc k1.size (.cells (witV C).toArray e)
  have k3 : Kept Y _ := Below.drew k2
  have h1 := alloc_last (Y.alloc (.cells #[.int .i64 0, .int .i64 0, .int .i64 a, .int .i64 d, .slice (some ⟨Y.heap.size + 1, 0, none⟩) M M] t)) (.cells (witV C).toArray e)
  have e9 : (Y.alloc (.cells #[.int .i64 0, .int .i64 0, .int .i64 a, .int .i64 d, .slice (some ⟨Y.heap.size + 1, 0, none⟩) M M] t)).heap.size = Y.heap.size + 1 := by simp
  rw [e9] at h1
  have far : ∀ o, (((Y.alloc (.cells #[.int .i64 0, .int .i64 0, .int .i64 a, .int .i64 d, .slice (some ⟨Y.heap.size + 1, 0, none⟩) M M] t)).alloc (.cells (witV C).toArray e)).drew).cell? ⟨Y.heap.size, o, none⟩ = (Y.alloc (.cells #[.int .i64 0, .int .i64 0, .int .i64 a, .int .i64 d, .slice (some ⟨Y.heap.size + 1, 0, none⟩) M M] t)).cell? ⟨Y.heap.size, o, none⟩ := fun o => World.cell?_alloc_lt _ _ ⟨Y.heap.size, o, none⟩ (by simp)
  refine ⟨fun j hj => (Kept.cells k3 _ _ hm).trans (hmet j hj), fun j => (Kept.thaw k3 _ _ hm).trans (hfree j), h1, ?_, ?_, ?_, ?_, ?_, by omega, by omega, hm, by simp, by simp; omega, hb.trans (k3.mono (by omega))⟩
  all_goals (rw [far]; simp)

/-- A block of a tile that is still nothing. -/
structure T0Box (W : World) (b : Nat) : Prop where
  t0 : W.cell? ⟨b, 0, none⟩ = some (.int .i64 0)
  t1 : W.cell? ⟨b, 1, none⟩ = some (.int .i64 0)
  t2 : W.cell? ⟨b, 2, none⟩ = some (.int .i64 0)
  t3 : W.cell? ⟨b, 3, none⟩ = some (.int .i64 0)
  t4 : W.cell? ⟨b, 4, none⟩ = some (.slice none 0 0)
  f0 : W.frozen? ⟨b, 0, none⟩ = false
  f1 : W.frozen? ⟨b, 1, none⟩ = false
  f2 : W.frozen? ⟨b, 2, none⟩ = false
  f3 : W.frozen? ⟨b, 3, none⟩ = false
  f4 : W.frozen? ⟨b, 4, none⟩ = false
theorem T0Box.lt {W : World} {b : Nat} (h : T0Box W b) : b < W.heap.size := lt_of_cell h.t0
theorem T0Box.below {W W' : World} {b B : Nat} (h : T0Box W b) (hk : Below B W W') (hb : b < B) : T0Box W' b :=
  ⟨(hk.cell (p := ⟨b, 0, none⟩) hb).trans h.t0, (hk.cell (p := ⟨b, 1, none⟩) hb).trans h.t1, (hk.cell (p := ⟨b, 2, none⟩) hb).trans h.t2, (hk.cell (p := ⟨b, 3, none⟩) hb).trans h.t3, (hk.cell (p := ⟨b, 4, none⟩) hb).trans h.t4,
    (hk.frozen (p := ⟨b, 0, none⟩) hb).trans h.f0, (hk.frozen (p := ⟨b, 1, none⟩) hb).trans h.f1, (hk.frozen (p := ⟨b, 2, none⟩) hb).trans h.f2, (hk.frozen (p := ⟨b, 3, none⟩) hb).trans h.f3, (hk.frozen (p := ⟨b, 4, none⟩) hb).trans h.f4⟩
theorem T0Box.kept {W W' : World} {b : Nat} (h : T0Box W b) (hk : Kept W W') : T0Box W' b := h.below hk h.lt
theorem T0Box.new (W : World) (t : TypeId) (b : Nat) (hb : b = W.heap.size) : T0Box (W.alloc (.cells #[.int .i64 0, .int .i64 0, .int .i64 0, .int .i64 0, .slice none 0 0] t)) b := by
  subst hb
  exact ⟨by simp, by simp, by simp, by simp, by simp, fresh_frozen _ _ _ _, fresh_frozen _ _ _ _, fresh_frozen _ _ _ _, fresh_frozen _ _ _ _, fresh_frozen _ _ _ _⟩
/-- A tile in a box. -/
structure LBox (W : World) (b : Nat) (x y u v : Int) (A : Option Addr) (n c : Nat) : Prop where
  t0 : W.cell? ⟨b, 0, none⟩ = some (.int .i64 x)
  t1 : W.cell? ⟨b, 1, none⟩ = some (.int .i64 y)
  t2 : W.cell? ⟨b, 2, none⟩ = some (.int .i64 u)
  t3 : W.cell? ⟨b, 3, none⟩ = some (.int .i64 v)
  t4 : W.cell? ⟨b, 4, none⟩ = some (.slice A n c)
theorem LBox.lt {W : World} {b : Nat} {x y u v : Int} {A : Option Addr} {n c : Nat} (h : LBox W b x y u v A n c) : b < W.heap.size := lt_of_cell h.t0
theorem LBox.far {W W' : World} {b : Nat} {x y u v : Int} {A : Option Addr} {n c : Nat} (h : LBox W b x y u v A n c) (hk : ∀ o, W'.cell? ⟨b, o, none⟩ = W.cell? ⟨b, o, none⟩) : LBox W' b x y u v A n c :=
  ⟨(hk _).trans h.t0, (hk _).trans h.t1, (hk _).trans h.t2, (hk _).trans h.t3, (hk _).trans h.t4⟩
theorem LBox.kept {W W' : World} {b : Nat} {x y u v : Int} {A : Option Addr} {n c : Nat} (h : LBox W b x y u v A n c) (hk : Kept W W') : LBox W' b x y u v A n c := h.far fun _ => hk.cells _ _ h.lt
theorem LBox.new (W : World) (x y u v : Int) (A : Option Addr) (n c : Nat) (t : TypeId) (b : Nat) (hb : b = W.heap.size) : LBox (W.alloc (.cells #[.int .i64 x, .int .i64 y, .int .i64 u, .int .i64 v, .slice A n c] t)) b x y u v A n c := by
  subst hb; exact ⟨by simp, by simp, by simp, by simp, by simp⟩

set_option maxRecDepth 100000 in
theorem rect_same (X Y U V : Int) (W : World) : (Op.equalIn 10000 38 (.agg #[.int .i64 X, .int .i64 Y, .int .i64 U, .int .i64 V]) (.agg #[.int .i64 X, .int .i64 Y, .int .i64 U, .int .i64 V])).run Tryz.prog W = .ok true W := by
  have h66 : Tryz.prog.fieldsOf 38 = #[{ name := "Column", type := 3, offset := 0, embedded := false, tag := "", pkgPath := "", byteOffset := 0 },
          { name := "Row", type := 3, offset := 1, embedded := false, tag := "", pkgPath := "", byteOffset := 8 },
          { name := "Across", type := 3, offset := 2, embedded := false, tag := "", pkgPath := "", byteOffset := 16 },
          { name := "Down", type := 3, offset := 3, embedded := false, tag := "", pkgPath := "", byteOffset := 24 }] := by kernel_rfl
  have h67 : Tryz.prog.stoodInHeld 38 = false := by kernel_rfl
  have hp : Tryz.prog.plainKey 3 = true := by kernel_rfl
  have p := fun (off : Nat) (v : Value) (h : (#[.int .i64 X, .int .i64 Y, .int .i64 U, .int .i64 V] : Array Value)[off]? = some v) => run_part_plain (P := Tryz.prog) (w := W) hp (off := off) h
  have p0 := p 0 (.int .i64 X) rfl
  have p1 := p 1 (.int .i64 Y) rfl
  have p2 := p 2 (.int .i64 U) rfl
  have p3 := p 3 (.int .i64 V) rfl
  have e : ∀ a : Int, (Op.equalIn 9999 3 (.int .i64 a) (.int .i64 a)).run Tryz.prog W = .ok (a == a) W := fun a => run_equalIn_int (P := Tryz.prog) W 9998 3 .i64 .i64 a a Tryz.underlying3
  rw [show (10000 : Nat) = 9999 + 1 from rfl, run_equalIn_agg W 9999 38 _ _ (by rw [h66]; exact Tryz.underlying38) h67, h66]
  simp [Op.eqFields, p0, p1, p2, p3, e]
end Go.Proofs.YtneakieigiafpaaGreatDoor
