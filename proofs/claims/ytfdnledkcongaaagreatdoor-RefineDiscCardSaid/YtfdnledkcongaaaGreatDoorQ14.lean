/- Texts of one claim laid together: RfC, RfP, RfD, RfE, RfF, RfG, LwA. -/
import Derived.Test.YtfdnledkcongaaaGreatDoorQ13
import Derived.Deep.MidRow
set_option linter.all false
namespace Go.Proofs.YtfdnledkcongaaaGreatDoor
open Go.RowKit Go.Proofs.Tryz
section
attribute [local go_sem] qah qae
def qfc (w : World) (base p : Nat) (v : Value) (u : RuD) (L : List NdR) (en : Ending) (w' : World) : Prop :=
 ∃ (b : Bool) (L' : List NdR) (v' : Value), en = .returned (.bool b) ∧ qbm L' ∧ L'.length = L.length + (if b = true then 4 else 0) ∧ RfM w' base p v' u L' ∧ Far (TrB p v) w w' ∧ (v'.ownBlock = v.ownBlock ∨ ∀ i, v'.ownBlock = some i → w.heap.size ≤ i)
theorem qfc.none {w w' : World} {base p : Nat} {v : Value} {u : RuD} {L : List NdR} (hM : RfM w base p v u L) (hS : qbm L) (hk : Kept w w') : qfc w base p v u L (.returned (.bool false)) w' :=
 ⟨false, L, v, rfl, hS, rfl, hM.kept hk, Far.qcE hk, .inl rfl⟩
set_option maxRecDepth 100000 in
set_option maxHeartbeats 6400000 in
theorem qnc {w : World} {base p : Nat} {v : Value} {u : RuD} {L : List NdR} {k : Nat} {n : NdR} (hM : RfM w base p v u L) (hS : qbm L) (hk : L[k]? = some n) (h0 : ¬ (n.par = false ∧ n.told = 0 ∧ n.depth < 40 ∧ qfs L + 3 ≤ 65536)) :
  Calls prog 61 #[.pointer (some ⟨p, 0, none⟩), .int .i64 (k : Int)] w (qfc w base p v u L) := by
 have PX := qh (fun w' (h : Kept w w') => qfc.none hM hS h)
 have CN := qh (fun W (h : Kept w W) => qe6 (hM.kept h) hS)
 have hcl := hS.count
 have hln := hS.len
 have hl := (List.getElem?_eq_some_iff.1 hk).1
 obtain ⟨gt, ot, ct, rfl, -, hgt, -, hcell, -⟩ := hM.form (by omega)
 have HBX := qh hM.box
 have HC := qh (fun W (hW : Kept w W) i y (hy : (rdV n)[i]? = some y) => show W.cell? ⟨gt, ot + k * 14 + i, none⟩ = some y by rw [Nat.add_assoc]; exact (hW.cells _ _ hgt).trans (hcell k n i y hk hy))
 have hkl : (k : Int) < ((L.length : Nat) : Int) := by omega
 have hk0 : (0 : Int) ≤ (k : Int) := by omega
 obtain ⟨CC, hCC⟩ : ∃ CC, CC = qfs L := ⟨_, rfl⟩
 rw [← hCC] at CN h0 hcl
 have hcase : n.par = true ∨ (n.par = false ∧ ((n.told ≠ 0) ∨ (n.told = 0 ∧ (40 ≤ n.depth ∨ (n.depth < 40 ∧ 65536 < CC + 3))))) := by
  cases hp : n.par with
  | true => exact .inl rfl
  | false =>
   refine .inr ⟨rfl, ?_⟩
   by_cases h1 : n.told = 0
   ·refine .inr ⟨h1, ?_⟩
    by_cases h2 : 40 ≤ n.depth
    ·exact .inl h2
    ·exact .inr ⟨by omega, by rcases Nat.lt_or_ge 65536 (CC + 3) with h3 | h3; exact h3; exact absurd ⟨hp, h1, by omega, h3⟩ h0⟩
   ·exact .inl h1
 obtain ⟨mm, hmm⟩ : ∃ mm, mm = CC + 3 := ⟨_, rfl⟩
 have ewc : IntKind.i64.wrap ((CC : Int) + 3) = (mm : Int) := by rw [IntWalk.i64_in _ (by omega)]; omega
 rw [← hmm] at hcase
 have p1 := HBX.out.c 12 rfl
 generalize L.length = LN at hkl p1
 clear hM hS hk h0 hcell hcl hln hl hCC hmm
 go_enter func61, ntmps61
 go_upto_region 1 with fail
 refine wp_region_list ?_
 refine wpList_plain rfl fun K hK => ?_
 go_step
 refine hK _ _ ?_
 clear hK K
 refine wpList_plain rfl fun K hK => ?_
 go_step
 refine hK _ _ ?_
 clear hK K
 refine wpList_plain rfl fun K hK => ?_
 go_step
 refine hK _ _ ?_
 clear hK K
 refine wpList_plain rfl fun K hK => ?_
 go_step
 refine hK _ _ ?_
 clear hK K
 refine wpList_plain rfl fun K hK => ?_
 go_step
 refine hK _ _ ?_
 clear hK K
 refine wpList_plain rfl fun K hK => ?_
 go_step
 refine hK _ _ ?_
 clear hK K
 refine wpList_plain rfl fun K hK => qav (vs := rdV n) (g := gt) (off := ot + k * 14) (n := 14) _ rfl rfl (HC.out w (Below.refl _ _)) rfl underlying104 rfl (by kernel_rfl) (hK _ _ ?_)
 clear hK K
 refine wpList_plain rfl fun K hK => ?_
 go_step
 refine hK _ _ ?_
 clear hK K
 have K2 := qh (Kept.new (Below.refl _ w) (.cells #[.bool false, .string ⟨#[]⟩, .int .i64 0, .bool false, .string ⟨#[]⟩, .int .i64 0, .int .i64 0, .int .i64 0, .int .u8 0, .bool false, .int .i64 0, .int .i64 0, .int .i64 0, .int .i64 0] 104))
 have B2 := qh (Bx.new w [.bool false, .string ⟨#[]⟩, .int .i64 0, .bool false, .string ⟨#[]⟩, .int .i64 0, .int .i64 0, .int .i64 0, .int .u8 0, .bool false, .int .i64 0, .int .i64 0, .int .i64 0, .int .i64 0] 104 w.heap.size rfl)
 obtain ⟨y, hy⟩ : ∃ y, y = w.heap.size := ⟨_, rfl⟩
 have HY := qh (show w.heap.size ≤ y by omega)
 rw [← hy] at B2 ⊢
 clear hy p1
 generalize World.alloc w _ = w1 at *
 refine wpList_plain rfl fun K hK => qaa (vs := rdV n) (b := y) (n := 14) _ _ rfl rfl rfl B2.out rfl rfl (by kernel_rfl) rfl (hK _ _ ?_)
 clear hK K
 replace B2 := qh (B2.out.row (rdV n))
 replace K2 := qh (Kept.row K2.out HY.out (rdV n))
 generalize World.setRow w1 _ _ = w2 at *
 have c7 := B2.out.c 7 (show (rdV n)[7]? = some (.int .i64 (n.depth : Int)) from rfl)
 have c8 := B2.out.c 8 (show (rdV n)[8]? = some (.int .u8 (n.told : Int)) from rfl)
 have c9 := B2.out.c 9 (show (rdV n)[9]? = some (.bool n.par) from rfl)
 generalize n.depth = nd at *
 generalize n.told = nt at *
 generalize n.par = np at *
 rcases hcase with h1 | ⟨h1, h2 | ⟨h2, h3 | ⟨h3, h4⟩⟩⟩
 ·subst h1
  go_wp2_with fail
  exact bodyPost_ret (v := .bool false) (by simp [results, results61, go_sem]) rfl (PX.out _ K2.out)
 ·subst h1
  have ht : (((nt : Nat) : Int) != 0) = true := by simpa using h2
  go_wp2_with fail
  exact bodyPost_ret (v := .bool false) (by simp [results, results61, go_sem]) rfl (PX.out _ K2.out)
 ·subst h1
  have ht : (((nt : Nat) : Int) != 0) = false := by simp [h2]
  have hd : (40 : Int) ≤ (nd : Int) := by omega
  clear h2
  go_wp2_with fail
  exact bodyPost_ret (v := .bool false) (by simp [results, results61, go_sem]) rfl (PX.out _ K2.out)
 ·subst h1
  have ht : (((nt : Nat) : Int) != 0) = false := by simp [h2]
  have hd : ¬ (40 : Int) ≤ (nd : Int) := by omega
  have hg : (65536 : Int) < (mm : Int) := by omega
  clear h2 h3 h4
  go_wp2_with (go_at_call 43; (with_reducible refine (CN.out _ K2.out).mono ?_); rintro e w3 ⟨rfl, hk3⟩)
  exact bodyPost_ret (v := .bool false) (by simp [results, results61, go_sem]) rfl (PX.out _ (K2.out.trans' hk3))
end
structure Rel (A B : List NdD) : Prop where
 len : B.length = A.length
 at_ : ∀ (j : Nat) (a : NdD), A[j]? = some a → ∃ t, t ≤ 2 ∧ B[j]? = some { a with told := t }
theorem Rel.back {A B : List NdD} (h : Rel A B) {j : Nat} {b : NdD} (hb : B[j]? = some b) : ∃ a t, A[j]? = some a ∧ t ≤ 2 ∧ b = { a with told := t } := by
 obtain ⟨a, ha⟩ : ∃ a, A[j]? = some a := ⟨_, List.getElem?_eq_getElem (by rw [← h.len]; exact (List.getElem?_eq_some_iff.1 hb).1)⟩
 obtain ⟨t, h1, h2⟩ := h.at_ j a ha
 rw [hb] at h2
 exact ⟨a, t, ha, h1, Option.some.inj h2⟩
theorem qbf.rel {A B : List NdD} (r : Rel A B) {k : Nat} {T : TrT} {P : List Nat} (h : qbf A k T P) : ∃ T', qbf B k T' P := by
 induction h with
 | leaf k n h1 h2 =>
  obtain ⟨t, -, h3⟩ := r.at_ k n h1
  exact ⟨_, .leaf k _ h3 h2⟩
 | node k n p q r' s a b c e P Q R S h1 h2 _ _ _ _ i1 i2 i3 i4 =>
  obtain ⟨t, -, h3⟩ := r.at_ k n h1
  obtain ⟨_, j1⟩ := i1
  obtain ⟨_, j2⟩ := i2
  obtain ⟨_, j3⟩ := i3
  obtain ⟨_, j4⟩ := i4
  exact ⟨_, .node k { n with told := t } p q r' s _ _ _ _ P Q R S h3 h2 j1 j2 j3 j4⟩
theorem qcy.rel {A B : List NdD} (r : Rel A B) (h : qcy A) : qcy B := by
 intro k n p q u s hk hn
 obtain ⟨a, t, h1, -, rfl⟩ := r.back hk
 rw [r.len]
 exact h k a p q u s h1 hn
theorem Whole.rel {A B : List NdD} {n : Nat} (r : Rel A B) (h : Whole ⟨A, n⟩) : Whole ⟨B, n⟩ := by
 obtain ⟨T, P, h1, h2⟩ := h.tree
 obtain ⟨T', h3⟩ := qbf.rel r h1
 exact ⟨⟨T', P, h3, by show P.Perm (List.range B.length); rw [r.len]; exact h2⟩, qcy.rel r h.kids, by show 4 * n = 3 * B.length + 1; rw [r.len]; exact h.count, by show 0 < B.length; rw [r.len]; exact h.some_, h.few⟩
theorem GoodS.rel {A B : List NdD} {n : Nat} (r : Rel A B) (h : GoodS ⟨A, n⟩) : GoodS ⟨B, n⟩ := by
 refine ⟨fun k b hb => ?_, qcy.rel r h.kids, by show 4 * n = 3 * B.length + 1; rw [r.len]; exact h.count, h.few, by show 0 < B.length; rw [r.len]; exact h.pos⟩
 obtain ⟨a, t, h1, h2, rfl⟩ := r.back hb
 have := h.nd k a h1
 exact ⟨this.sq, h2, this.depth⟩
def qlQ : List Value → Nat → List Value → List Value
 | old, _, [] => old
 | old, o, v :: vs => qlQ (old.set o v) (o + 1) vs
theorem qga : ∀ (vs A B C : List Value), B.length = vs.length → qlQ (A ++ (B ++ C)) A.length vs = A ++ (vs ++ C)
 | [], A, B, C, h => by simp at h; subst h; rfl
 | v :: vs, A, [], C, h => by simp at h
 | v :: vs, A, b :: B, C, h => by
  rw [qlQ]
  have e : (A ++ (b :: B ++ C)).set A.length v = (A ++ [v]) ++ (B ++ C) := by simp
  rw [e, show A.length + 1 = (A ++ [v]).length by simp, qga vs (A ++ [v]) B C (by simpa using h)]
  simp
theorem Bx.setCells {b : Nat} : ∀ (vs : List Value) {W : World} {old : List Value} (o : Nat), Bx W b old → o + vs.length ≤ old.length → Bx (W.setCells b o vs) b (qlQ old o vs)
 | [], _, _, _, h, _ => h
 | v :: vs, W, old, o, h, hl => by
  rw [World.setCells, qlQ]
  simp only [List.length_cons] at hl
  exact Bx.setCells vs (o + 1) (h.set o v (by omega)) (by simp; omega)
theorem Bx.qgM {b g : Nat} (hne : b ≠ g) : ∀ (vs : List Value) {W : World} {old : List Value} (o : Nat), Bx W b old → Bx (W.setCells g o vs) b old
 | [], _, _, _, h => h
 | v :: vs, W, old, o, h => by
  rw [World.setCells]
  exact Bx.qgM hne vs (o + 1) (h.far ⟨g, o, none⟩ hne v)
theorem Kept.setCells {w : World} {g : Nat} (hg : w.heap.size ≤ g) : ∀ (vs : List Value) {W : World} (o : Nat), Kept w W → Kept w (W.setCells g o vs)
 | [], _, _, h => h
 | v :: vs, W, o, h => by
  rw [World.setCells]
  exact Kept.setCells hg vs (o + 1) (h.set hg o v)
theorem Bx.there {W : World} {b : Nat} {vs : List Value} (h : Bx W b vs) {o n : Nat} (hl : o + n ≤ vs.length) : W.there b o n := fun j hj => by
 rw [h.c (o + j) (List.getElem?_eq_getElem (show o + j < vs.length by omega))]
 exact ⟨rfl, h.f (o + j)⟩
theorem Bx.range {W : World} {b : Nat} {vs : List Value} (h : Bx W b vs) {o : Nat} {cs : List Value} (hc : ∀ j v, cs[j]? = some v → vs[o + j]? = some v) : W.rangeAt b o cs := fun j v hv => h.c (o + j) (hc j v hv)
theorem qba {P : Program} {o : Oper} {a : Act} {W : World} {b off : Nat} {T : TypeId} {d : TypeDesc} {vs : List Value} (x : Operand) (ho : o.op = .load T x) (hx : a.eval x = .pointer (some ⟨b, off, none⟩)) (hc : W.rangeAt b off vs) (hu : P.underlying T = some d) (hd : d.isRow = true) (hi : (P.info? T).map (·.size) = some vs.length) :
  (execOp a.eval o).run P W = .ok (.value (.agg vs.toArray)) W := by
 unfold execOp
 simp only [ho, hx, Instr.loadAt, Instr.sureAddr, Sem.run_bind, Sem.run_pure, Result.andThen_ok, run_loadVar_mid W b off T vs d hc hu hd hi]
theorem qfH {P : Program} {o : Oper} {a : Act} {W : World} {T : TypeId} {parts : Array (Nat × Operand)} (vs : List Value) (ho : o.op = .build T parts) (hv : P.built T (parts.map fun (i, x) => (i, a.eval x)).toList = some vs.toArray) :
  (execOp a.eval o).run P W = .ok (.value (.agg vs.toArray)) W := by
 unfold execOp
 simp only [ho, Sem.run_bind, run_build W T _ vs.toArray hv, Result.andThen_ok, Sem.run_pure]
theorem qlu (l : List NdR) (k : Nat) (n : NdR) (hk : k < l.length) : qlQ (qbT l) (k * 14) (rdV n) = qbT (l.set k n) := by
 obtain ⟨x, hx⟩ : ∃ x, l[k]? = some x := ⟨_, List.getElem?_eq_getElem hk⟩
 have e : l = l.take k ++ (x :: l.drop (k + 1)) := by
  rw [← (List.getElem?_eq_some_iff.1 hx).2, ← List.drop_eq_getElem_cons hk, List.take_append_drop]
 have hl : (l.take k).length = k := by simp; omega
 have e2 : l.set k n = l.take k ++ (n :: l.drop (k + 1)) := by
  rw [List.set_eq_take_append_cons_drop, if_pos hk]
 rw [e2]
 conv => lhs; rw [e]
 rw [qdJ, qdJ]
 simp only [qbT]
 have h1 : (qbT (l.take k)).length = k * 14 := by rw [qdK, hl]
 rw [← h1]
 exact qga (rdV n) (qbT (l.take k)) (rdV x) (qbT (l.drop (k + 1))) rfl
def qgk : NdR := ⟨⟨⟨false, ⟨#[]⟩, 0⟩, ⟨false, ⟨#[]⟩, 0⟩, 0⟩, 0, 0, false, 0, 0, 0, 0⟩
def qcI (n : NdR) (s : SqD) (t : Nat) : NdR := ⟨s, n.depth + 1, t, false, 0, 0, 0, 0⟩
def NdR.qaX (n : NdR) (N j : Nat) : NdR := { n with k0 := if 0 < j then N else n.k0, k1 := if 1 < j then N + 1 else n.k1, k2 := if 2 < j then N + 2 else n.k2, k3 := if 3 < j then N + 3 else n.k3 }
theorem qjY (n : NdR) (N : Nat) {j : Nat} (hj : j < 4) : (rdV (n.qaX N j)).set (10 + j) (.int .i64 ((N + j : Nat) : Int)) = rdV (n.qaX N (j + 1)) := by
 rcases (show j = 0 ∨ j = 1 ∨ j = 2 ∨ j = 3 by omega) with rfl | rfl | rfl | rfl <;> rfl
def NdR.parted (n : NdR) (N : Nat) : NdR := { n.qaX N 4 with par := true, told := 0 }
theorem qki {n : NdR} {N : Nat} (ht : n.told = 0) : (n.parted N).toD = n.toD.part N := by
 simp [NdR.parted, NdR.toD, NdR.qaX, NdD.part, ht]
theorem qka {A : List NdR} {k : Nat} {m : NdR} (hk : A[k]? = some m) : ((qbT A).set (k * 14 + 9) (.bool true)).set (k * 14 + 8) (.int .u8 0) = qbT (A.set k { m with par := true, told := 0 }) := by
 have hl := (List.getElem?_eq_some_iff.1 hk).1
 rw [qft A k m { m with par := true } 9 (.bool true) hk (by omega) rfl, qft (A.set k { m with par := true }) k { m with par := true } { m with par := true, told := 0 } 8 (.int .u8 0) (List.getElem?_set_self hl) (by omega) rfl, List.set_set]
theorem qjr {L : List NdR} (hS : qbm L) {k : Nat} {n : NdR} {q0 q1 q2 q3 : SqD} {t0 t1 t2 t3 : Nat} (hk : L[k]? = some n) (hp : n.par = false) (ht : n.told = 0) (hd : n.depth < 40) (hc : qfs L + 3 ≤ 65536)
  (hq : qbp n.sq = some [q0, q1, q2, q3]) (c0 : (qaj q0).2 = 0) (c1 : (qaj q1).2 = 0) (c2 : (qaj q2).2 = 0) (c3 : (qaj q3).2 = 0) (h0 : t0 ≤ 2) (h1 : t1 ≤ 2) (h2 : t2 ≤ 2) (h3 : t3 ≤ 2) :
  qbm (L.set k (n.parted L.length) ++ [qcI n q0 t0, qcI n q1 t1, qcI n q2 t2, qcI n q3 t3]) := by
 have hcc := hS.cnt
 have hkd := qgr hk
 have hsq : qal (stR L) k = some (n.toD, (q0, q1, q2, q3)) := by
  unfold qal
  rw [hkd]
  simp only
  have hkn : n.toD.kids = none := by unfold NdR.toD; rw [hp]; rfl
  rw [if_pos ⟨hkn, ht, hd, by rw [← hcc]; exact hc⟩]
  have hpc : qcD n.toD.sq = some (q0, q1, q2, q3) := by
   show qcD n.sq = _
   unfold qcD; rw [hq]; simp only; rw [if_pos ⟨c0, c1, c2, c3⟩]
  rw [hpc]; rfl
 have hw := hS.whole.part (fun _ => 0) k
 have hg := hS.good.part hsq (qhq (hS.good.nd k _ hkd).sq (qa5 hsq).2.2.2.2.2) (fun _ => 0) (fun _ => by omega)
 rw [qd5 hsq] at hw
 have hl := (List.getElem?_eq_some_iff.1 hk).1
 have e : (stR (L.set k (n.parted L.length) ++ [qcI n q0 t0, qcI n q1 t1, qcI n q2 t2, qcI n q3 t3])).L = (stR L).L.set k (n.toD.part L.length) ++ [qfq n.toD q0 t0, qfq n.toD q1 t1, qfq n.toD q2 t2, qfq n.toD q3 t3] := by
  simp only [stR, List.map_append, List.map_set, qki ht]
  rfl
 have en : (stR (L.set k (n.parted L.length) ++ [qcI n q0 t0, qcI n q1 t1, qcI n q2 t2, qcI n q3 t3])).n = (stR L).n + 3 := by
  have := hS.good.count
  simp only [stR, List.length_map] at this ⊢
  simp only [List.length_append, List.length_set, List.length_cons, List.length_nil]
  omega
 have hr : Rel (qak (stR L).L k n.toD (q0, q1, q2, q3) (fun _ => 0)) (stR (L.set k (n.parted L.length) ++ [qcI n q0 t0, qcI n q1 t1, qcI n q2 t2, qcI n q3 t3])).L := by
  rw [e]
  have hll : (stR L).L.length = L.length := by simp [stR]
  refine ⟨by simp [qak], fun j a ha => ?_⟩
  by_cases hj : j < (stR L).L.length
  ·rw [List.getElem?_append_left (by simpa using hj)]
   unfold qak at ha
   rw [List.getElem?_append_left (by simpa using hj)] at ha
   rw [hll] at ha
   refine ⟨a.told, ?_, ha⟩
   by_cases hjk : j = k
   ·subst hjk
    rw [List.getElem?_set_self hj] at ha
    cases ha
    show n.told ≤ 2
    omega
   ·rw [List.getElem?_set_ne (fun e => hjk e.symm)] at ha
    exact (hS.good.nd j a ha).told
  ·have hj2 := (List.getElem?_eq_some_iff.1 ha).1
   rw [qat] at hj2
   unfold qak at ha
   rw [List.getElem?_append_right (by simp; omega)] at ha
   rw [List.getElem?_append_right (by simp; omega)]
   simp only [List.length_set] at ha ⊢
   obtain ⟨i, hi⟩ : ∃ i, i = j - (stR L).L.length := ⟨_, rfl⟩
   rw [← hi] at ha ⊢
   rcases (show i = 0 ∨ i = 1 ∨ i = 2 ∨ i = 3 by omega) with h | h | h | h <;> rw [h] at ha ⊢ <;> cases ha
   ·exact ⟨t0, h0, rfl⟩
   ·exact ⟨t1, h1, rfl⟩
   ·exact ⟨t2, h2, rfl⟩
   ·exact ⟨t3, h3, rfl⟩
 refine ⟨?_, ?_⟩
 ·have := GoodS.rel hr hg
  rw [← en] at this
  exact this
 ·have := Whole.rel hr hw
  rw [← en] at this
  exact this
section
attribute [local go_sem] qah qae
theorem qix {o : Option (List SqD)} {x : Value} (h : qex o x) (hl : ∀ l, o = some l → l.length = 4) : ∃ (QL : List Value) (e : Int), x = .tuple #[.agg QL.toArray, .int .i64 e] ∧ QL.length = 28 ∧ QL.all Value.oneCell' = true ∧ (e ≠ 0 ∨ (e = 0 ∧ ∃ l, o = some l ∧ QL = l.flatMap qb6)) := by
 cases o with
 | none =>
  obtain ⟨e, he, rfl⟩ := h
  exact ⟨ZL2, e, rfl, rfl, rfl, .inl he⟩
 | some l =>
  match l, hl l rfl, h with
  | [a, b, c, d], _, h => exact ⟨_, 0, h, rfl, rfl, .inr ⟨rfl, _, rfl, rfl⟩⟩
theorem qok : (prog.info? 104).map (fun i => (i.zero, i.size, i.bytes)) = some (some (.agg #[.bool false, .string ⟨#[]⟩, .int .i64 0, .bool false, .string ⟨#[]⟩, .int .i64 0, .int .i64 0, .int .i64 0, .int .u8 0, .bool false, .int .i64 0, .int .i64 0, .int .i64 0, .int .i64 0]), 14, 120) := by kernel_rfl
set_option maxRecDepth 100000 in
set_option maxHeartbeats 6400000 in
theorem qnG {w : World} {base p : Nat} {v : Value} {u : RuD} {L : List NdR} {k : Nat} {n : NdR} (hM : RfM w base p v u L) (hS : qbm L) (hu : u.ok) (hk : L[k]? = some n) (g1 : n.par = false) (g2 : n.told = 0) (g3 : n.depth < 40) (g4 : qfs L + 3 ≤ 65536) :
  Calls prog 61 #[.pointer (some ⟨p, 0, none⟩), .int .i64 (k : Int)] w (qfc w base p v u L) := by
 have PX := qh (fun w' (h : Kept w w') => qfc.none hM hS h)
 have CN := qh (fun W (h : Kept w W) => qe6 (hM.kept h) hS)
 have hnq := (hS.good.nd k n.toD (qgr hk)).sq
 change sqB n.sq = true at hnq
 have GR := qh (fun q0 q1 q2 q3 t0 t1 t2 t3 => qjr (q0 := q0) (q1 := q1) (q2 := q2) (q3 := q3) (t0 := t0) (t1 := t1) (t2 := t2) (t3 := t3) hS hk g1 g2 g3 g4)
 have PT : Hid (∀ W, Calls prog 87 #[.agg (qb6 n.sq).toArray] W fun en w' => ∃ v, en = .returned v ∧ qex (qbp n.sq) v ∧ Kept W w') := qh (fun W => qky n.sq W hnq)
 have PO : Hid (∀ l, qbp n.sq = some l → l.length = 4 ∧ ∀ s ∈ l, sqB s = true) := qh (fun l h => qd2 hnq h)
 have hcl := hS.count
 have hln := hS.len
 have hl := (List.getElem?_eq_some_iff.1 hk).1
 have HM := qh hM
 have HLT := qh hl
 have HLN := qh hln
 have HKK := qh hk
 have HU := qh hu
 obtain ⟨gt, ot, ct, rfl, -, hgt, -, hcell, -⟩ := hM.form (by omega)
 have HC := qh (fun W (hW : Kept w W) i y (hy : (rdV n)[i]? = some y) => show W.cell? ⟨gt, ot + k * 14 + i, none⟩ = some y by rw [Nat.add_assoc]; exact (hW.cells _ _ hgt).trans (hcell k n i y hk hy))
 have hkl : (k : Int) < ((L.length : Nat) : Int) := by omega
 have hk0 : (0 : Int) ≤ (k : Int) := by omega
 obtain ⟨CC, hCC⟩ : ∃ CC, CC = qfs L := ⟨_, rfl⟩
 rw [← hCC] at CN g4 hcl
 obtain ⟨mm, hmm⟩ : ∃ mm, mm = CC + 3 := ⟨_, rfl⟩
 have ewc : IntKind.i64.wrap ((CC : Int) + 3) = (mm : Int) := by rw [IntWalk.i64_in _ (by omega)]; omega
 have hmg : ¬ (65536 : Int) < (mm : Int) := by omega
 have p1 := hM.box.c 12 rfl
 obtain ⟨LN, hLN⟩ : ∃ LN, LN = L.length := ⟨_, rfl⟩
 have HN := qh hLN
 rw [← hLN] at hkl p1
 have G1 := qh g1
 have G2 := qh g2
 have G3 := qh g3
 clear hM hS hu hk hcell hcl hln hl hCC hmm g1 g2 g3 g4 hnq hLN
 go_enter func61, ntmps61
 go_upto_region 1 with fail
 refine wp_region_list ?_
 refine wpList_plain rfl fun K hK => ?_
 go_step
 refine hK _ _ ?_
 clear hK K
 refine wpList_plain rfl fun K hK => ?_
 go_step
 refine hK _ _ ?_
 clear hK K
 refine wpList_plain rfl fun K hK => ?_
 go_step
 refine hK _ _ ?_
 clear hK K
 refine wpList_plain rfl fun K hK => ?_
 go_step
 refine hK _ _ ?_
 clear hK K
 refine wpList_plain rfl fun K hK => ?_
 go_step
 refine hK _ _ ?_
 clear hK K
 refine wpList_plain rfl fun K hK => ?_
 go_step
 refine hK _ _ ?_
 clear hK K
 refine wpList_plain rfl fun K hK => qav (vs := rdV n) (g := gt) (off := ot + k * 14) (n := 14) _ rfl rfl (HC.out w (Below.refl _ _)) rfl underlying104 rfl (by kernel_rfl) (hK _ _ ?_)
 clear hK K
 refine wpList_plain rfl fun K hK => ?_
 go_step
 refine hK _ _ ?_
 clear hK K
 have K2 := qh (Kept.new (Below.refl _ w) (.cells #[.bool false, .string ⟨#[]⟩, .int .i64 0, .bool false, .string ⟨#[]⟩, .int .i64 0, .int .i64 0, .int .i64 0, .int .u8 0, .bool false, .int .i64 0, .int .i64 0, .int .i64 0, .int .i64 0] 104))
 have B2 := qh (Bx.new w [.bool false, .string ⟨#[]⟩, .int .i64 0, .bool false, .string ⟨#[]⟩, .int .i64 0, .int .i64 0, .int .i64 0, .int .u8 0, .bool false, .int .i64 0, .int .i64 0, .int .i64 0, .int .i64 0] 104 w.heap.size rfl)
 obtain ⟨y, hy⟩ : ∃ y, y = w.heap.size := ⟨_, rfl⟩
 have HY := qh (show w.heap.size ≤ y by omega)
 rw [← hy] at B2 ⊢
 clear hy p1
 generalize World.alloc w _ = w1 at *
 refine wpList_plain rfl fun K hK => qaa (vs := rdV n) (b := y) (n := 14) _ _ rfl rfl rfl B2.out rfl rfl (by kernel_rfl) rfl (hK _ _ ?_)
 clear hK K
 replace B2 := qh (B2.out.row (rdV n))
 replace K2 := qh (Kept.row K2.out HY.out (rdV n))
 generalize World.setRow w1 _ _ = w2 at *
 have c7 := B2.out.c 7 (show (rdV n)[7]? = some (.int .i64 (n.depth : Int)) from rfl)
 have c8 := B2.out.c 8 (show (rdV n)[8]? = some (.int .u8 0) by rw [show (0 : Int) = (n.told : Int) by rw [G2.out]; rfl]; rfl)
 have c9 := B2.out.c 9 (show (rdV n)[9]? = some (.bool false) by rw [← G1.out]; rfl)
 have hd : ¬ (40 : Int) ≤ (n.depth : Int) := by have := G3.out; omega
 obtain ⟨nd, hnd⟩ : ∃ nd, nd = n.depth := ⟨_, rfl⟩
 have HND := qh hnd
 rw [← hnd] at c7 hd
 clear hnd
 go_upto_region 4 with (go_at_call 43; (with_reducible refine (CN.out _ K2.out).mono ?_); rintro e w3 ⟨rfl, hk3⟩)
 have K3 := qh (K2.out.trans' hk3)
 have B3 := qh (B2.out.kept hk3)
 clear hk3 K2 B2 c7 c8 c9 hd hmg ewc
 refine wp_region_list ?_
 refine wpList_plain rfl fun K hK => ?_
 go_step
 refine hK _ _ ?_
 clear hK K
 refine wpList_plain rfl fun K hK => qav (vs := qb6 n.sq) (g := y) (off := 0) (n := 7) _ rfl rfl (fun i z hz => by rw [Nat.zero_add]; exact B3.out.c i (by unfold qb6 at hz; have h7 : i < 7 := (List.getElem?_eq_some_iff.1 hz).1; rcases (show i = 0 ∨ i = 1 ∨ i = 2 ∨ i = 3 ∨ i = 4 ∨ i = 5 ∨ i = 6 by omega) with rfl | rfl | rfl | rfl | rfl | rfl | rfl <;> exact hz)) rfl underlying26 rfl (by kernel_rfl) (hK _ _ ?_)
 clear hK K
 refine wpList_plain rfl fun K hK => ?_
 go_step
 (with_reducible refine (PT.out _).mono ?_)
 rintro e w4 ⟨x, rfl, hx, hk4⟩
 refine hK _ _ ?_
 clear hK K
 obtain ⟨QL, e, rfl, hq1, hq2, hq3⟩ := qix hx (fun l h => (PO.out l h).1)
 have Q1 := qh hq1
 have Q2 := qh hq2
 have Q3 := qh hq3
 clear hx hq1 hq2 hq3 PT
 refine wpList_plain rfl fun K hK => ?_
 go_step
 refine hK _ _ ?_
 clear hK K
 refine wpList_plain rfl fun K hK => ?_
 go_step
 refine hK _ _ ?_
 clear hK K
 refine wpList_plain rfl fun K hK => ?_
 go_step
 refine hK _ _ ?_
 clear hK K
 refine wpList_plain rfl fun K hK => ?_
 go_step
 refine hK _ _ ?_
 clear hK K
 have K5 := qh (Kept.new (K3.out.trans' hk4) (.cells ZL2.toArray 141))
 have B5 := qh (Bx.new w4 ZL2 141 w4.heap.size rfl)
 have B3n := qh ((B3.out.kept hk4).kept (Kept.new (Below.refl _ w4) (.cells ZL2.toArray 141)))
 obtain ⟨b, hb⟩ : ∃ b, b = w4.heap.size := ⟨_, rfl⟩
 have HBY := qh (show y < b from by rw [hb]; exact (B3.out.kept hk4).lt)
 have HBG := qh (show w.heap.size ≤ b from by have := (K3.out.trans' hk4).size; omega)
 rw [← hb] at B5 ⊢
 clear hb hk4 K3 B3
 generalize World.alloc w4 _ = w5 at *
 refine wpList_plain rfl fun K hK => qaa (vs := QL) (b := b) (n := 28) _ _ rfl rfl rfl B5.out Q1.out rfl (by kernel_rfl) Q2.out (hK _ _ ?_)
 clear hK K
 replace B5 := qh (B5.out.row QL)
 replace B3n := qh (B3n.out.off (g := b) (by have := HBY.out; omega) QL)
 replace K5 := qh (Kept.row K5.out HBG.out QL)
 generalize World.setRow w5 _ _ = w6 at *
 rcases Q3.out with he | ⟨rfl, l, hl, hQL⟩
 ·have hne : (e != 0) = true := by simpa using he
  clear he Q3
  go_wp2_with fail
  exact bodyPost_ret (v := .bool false) (by simp [results, results61, go_sem]) rfl (PX.out _ K5.out)
 obtain ⟨hl4, hlo⟩ := PO.out l hl
 match l, hl4, hlo, hl, hQL with
 | [q0, q1, q2, q3], _, hlo, hl, hQL =>
 have HQQ := qh hl
 have HQ : Hid (∀ m : Nat, m < 4 → ∃ G : SqD, [q0, q1, q2, q3][m]? = some G ∧ sqB G = true ∧ ∀ i z, (qb6 G)[i]? = some z → QL[m * 7 + i]? = some z) := by
  refine qh fun m hm => ?_
  rw [hQL]
  rcases (show m = 0 ∨ m = 1 ∨ m = 2 ∨ m = 3 by omega) with rfl | rfl | rfl | rfl
  ·exact ⟨q0, rfl, hlo _ (by simp), fun i z hz => by have h7 : i < 7 := (List.getElem?_eq_some_iff.1 hz).1; rcases (show i = 0 ∨ i = 1 ∨ i = 2 ∨ i = 3 ∨ i = 4 ∨ i = 5 ∨ i = 6 by omega) with rfl | rfl | rfl | rfl | rfl | rfl | rfl <;> exact hz⟩
  ·exact ⟨q1, rfl, hlo _ (by simp), fun i z hz => by have h7 : i < 7 := (List.getElem?_eq_some_iff.1 hz).1; rcases (show i = 0 ∨ i = 1 ∨ i = 2 ∨ i = 3 ∨ i = 4 ∨ i = 5 ∨ i = 6 by omega) with rfl | rfl | rfl | rfl | rfl | rfl | rfl <;> exact hz⟩
  ·exact ⟨q2, rfl, hlo _ (by simp), fun i z hz => by have h7 : i < 7 := (List.getElem?_eq_some_iff.1 hz).1; rcases (show i = 0 ∨ i = 1 ∨ i = 2 ∨ i = 3 ∨ i = 4 ∨ i = 5 ∨ i = 6 by omega) with rfl | rfl | rfl | rfl | rfl | rfl | rfl <;> exact hz⟩
  ·exact ⟨q3, rfl, hlo _ (by simp), fun i z hz => by have h7 : i < 7 := (List.getElem?_eq_some_iff.1 hz).1; rcases (show i = 0 ∨ i = 1 ∨ i = 2 ∨ i = 3 ∨ i = 4 ∨ i = 5 ∨ i = 6 by omega) with rfl | rfl | rfl | rfl | rfl | rfl | rfl <;> exact hz⟩
 have hcl4 : ∀ (P : Nat → Prop), (∀ m, m < 4 → P m) → P 0 ∧ P 1 ∧ P 2 ∧ P 3 := fun P h => ⟨h 0 (by omega), h 1 (by omega), h 2 (by omega), h 3 (by omega)⟩
 clear hl hQL hlo hl4 PO Q3 hcl4
 go_upto_region 7 with fail
 refine wp_region_list ?_
 refine wpList_plain rfl fun K hK => ?_
 go_step
 refine hK _ _ ?_
 clear hK K
 have B8 := qh (show Bx _ w6.heap.size (qbT [qgk, qgk, qgk, qgk]) from Bx.new w6 [.bool false, .string ⟨#[]⟩, .int .i64 0, .bool false, .string ⟨#[]⟩, .int .i64 0, .int .i64 0, .int .i64 0, .int .u8 0, .bool false, .int .i64 0, .int .i64 0, .int .i64 0, .int .i64 0, .bool false, .string ⟨#[]⟩, .int .i64 0, .bool false, .string ⟨#[]⟩, .int .i64 0, .int .i64 0, .int .i64 0, .int .u8 0, .bool false, .int .i64 0, .int .i64 0, .int .i64 0, .int .i64 0, .bool false, .string ⟨#[]⟩, .int .i64 0, .bool false, .string ⟨#[]⟩, .int .i64 0, .int .i64 0, .int .i64 0, .int .u8 0, .bool false, .int .i64 0, .int .i64 0, .int .i64 0, .int .i64 0, .bool false, .string ⟨#[]⟩, .int .i64 0, .bool false, .string ⟨#[]⟩, .int .i64 0, .int .i64 0, .int .i64 0, .int .u8 0, .bool false, .int .i64 0, .int .i64 0, .int .i64 0, .int .i64 0] 178 w6.heap.size rfl)
 have K8 := qh (Kept.new K5.out (.cells #[.bool false, .string ⟨#[]⟩, .int .i64 0, .bool false, .string ⟨#[]⟩, .int .i64 0, .int .i64 0, .int .i64 0, .int .u8 0, .bool false, .int .i64 0, .int .i64 0, .int .i64 0, .int .i64 0, .bool false, .string ⟨#[]⟩, .int .i64 0, .bool false, .string ⟨#[]⟩, .int .i64 0, .int .i64 0, .int .i64 0, .int .u8 0, .bool false, .int .i64 0, .int .i64 0, .int .i64 0, .int .i64 0, .bool false, .string ⟨#[]⟩, .int .i64 0, .bool false, .string ⟨#[]⟩, .int .i64 0, .int .i64 0, .int .i64 0, .int .u8 0, .bool false, .int .i64 0, .int .i64 0, .int .i64 0, .int .i64 0, .bool false, .string ⟨#[]⟩, .int .i64 0, .bool false, .string ⟨#[]⟩, .int .i64 0, .int .i64 0, .int .i64 0, .int .u8 0, .bool false, .int .i64 0, .int .i64 0, .int .i64 0, .int .i64 0] 178))
 have B5n := qh (B5.out.kept (Kept.new (Below.refl _ w6) (.cells #[.bool false, .string ⟨#[]⟩, .int .i64 0, .bool false, .string ⟨#[]⟩, .int .i64 0, .int .i64 0, .int .i64 0, .int .u8 0, .bool false, .int .i64 0, .int .i64 0, .int .i64 0, .int .i64 0, .bool false, .string ⟨#[]⟩, .int .i64 0, .bool false, .string ⟨#[]⟩, .int .i64 0, .int .i64 0, .int .i64 0, .int .u8 0, .bool false, .int .i64 0, .int .i64 0, .int .i64 0, .int .i64 0, .bool false, .string ⟨#[]⟩, .int .i64 0, .bool false, .string ⟨#[]⟩, .int .i64 0, .int .i64 0, .int .i64 0, .int .u8 0, .bool false, .int .i64 0, .int .i64 0, .int .i64 0, .int .i64 0, .bool false, .string ⟨#[]⟩, .int .i64 0, .bool false, .string ⟨#[]⟩, .int .i64 0, .int .i64 0, .int .i64 0, .int .u8 0, .bool false, .int .i64 0, .int .i64 0, .int .i64 0, .int .i64 0] 178)))
 replace B3n := qh (B3n.out.kept (Kept.new (Below.refl _ w6) (.cells #[.bool false, .string ⟨#[]⟩, .int .i64 0, .bool false, .string ⟨#[]⟩, .int .i64 0, .int .i64 0, .int .i64 0, .int .u8 0, .bool false, .int .i64 0, .int .i64 0, .int .i64 0, .int .i64 0, .bool false, .string ⟨#[]⟩, .int .i64 0, .bool false, .string ⟨#[]⟩, .int .i64 0, .int .i64 0, .int .i64 0, .int .u8 0, .bool false, .int .i64 0, .int .i64 0, .int .i64 0, .int .i64 0, .bool false, .string ⟨#[]⟩, .int .i64 0, .bool false, .string ⟨#[]⟩, .int .i64 0, .int .i64 0, .int .i64 0, .int .u8 0, .bool false, .int .i64 0, .int .i64 0, .int .i64 0, .int .i64 0, .bool false, .string ⟨#[]⟩, .int .i64 0, .bool false, .string ⟨#[]⟩, .int .i64 0, .int .i64 0, .int .i64 0, .int .u8 0, .bool false, .int .i64 0, .int .i64 0, .int .i64 0, .int .i64 0] 178)))
 obtain ⟨c, hc⟩ : ∃ c, c = w6.heap.size := ⟨_, rfl⟩
 have HCB := qh (show b < c from by rw [hc]; exact B5.out.lt)
 rw [← hc] at B8 ⊢
 clear hc K5 B5
 generalize World.alloc w6 _ = w7 at *
 go_wp2_with fail
 go_loopg [9] 4 (fun gh v9 wr => ∃ (m : Nat) (KL : List NdR), m + gh = 4 ∧ v9 = .int .i64 (m : Int) ∧ KL.length = 4 ∧ Bx wr c (qbT KL) ∧ (∀ j, j < m → ∃ G t, [q0, q1, q2, q3][j]? = some G ∧ t ≤ 2 ∧ (qaj G).2 = 0 ∧ KL[j]? = some (qcI n G t)) ∧ Bx wr b QL ∧ Bx wr y (rdV n) ∧ Kept w wr)
 case atStart => exact ⟨0, [qgk, qgk, qgk, qgk], by omega, rfl, rfl, B8.out, fun j hj => by omega, B5n.out, B3n.out, K8.out⟩
 case round =>
  clear B8 B5n B3n K8
  obtain ⟨m, KL, hmg, rfl, hkl4, hb8, hkk, hb5, hb3, hkw⟩ := hrel
  have H4 := qh hkl4
  have B8 := qh hb8
  have HKS := qh hkk
  have B5 := qh hb5
  have B3 := qh hb3
  have HK := qh hkw
  clear hkl4 hb8 hkk hb5 hb3 hkw
  cases gk with
  | zero =>
   obtain rfl : m = 4 := by omega
   clear B5 B3
   have TM := HM.out.kept HK.out
   have HF0 := qh (show Far (TrB p (Value.slice (some ⟨gt, ot, none⟩) L.length ct)) w wr from Far.qcE HK.out)
   have HO0 := qh (show ∀ i, (Value.slice (some ⟨gt, ot, none⟩) L.length ct).ownBlock = some i → i ≠ c from fun i hi => by have h1 := (HM.out.own.lt i hi).2; have h2 := HBG.out; have h3 := HCB.out; omega)
   have HPC := qh (show p ≠ c by have h1 := HM.out.box.lt; have h2 := HBG.out; have h3 := HCB.out; omega)
   have HA0 : Hid (RfM wr base p (.slice (some ⟨gt, ot, none⟩) L.length ct) u (L.set k (n.qaX LN 0) ++ KL.take 0)) := by
    have e : L.set k (n.qaX LN 0) ++ KL.take 0 = L := by
     rw [List.take_zero, List.append_nil, show n.qaX LN 0 = n from rfl]
     exact List.ext_getElem? fun i => by
      by_cases hi : k = i
      ·subst hi; rw [List.getElem?_set_self HLT.out]; exact HKK.out.symm
      ·rw [List.getElem?_set_ne hi]
    rw [e]; exact qh TM
   have HA1 : Hid (∀ j, (L.set k (n.qaX LN j) ++ KL.take j)[k]? = some (n.qaX LN j)) := qh fun j => by
    rw [List.getElem?_append_left (by rw [List.length_set]; exact HLT.out), List.getElem?_set_self HLT.out]
   have HA2 : Hid (∀ j x, KL[j]? = some x → (L.set k (n.qaX LN j) ++ KL.take j).set k (n.qaX LN (j + 1)) ++ [x] = L.set k (n.qaX LN (j + 1)) ++ KL.take (j + 1)) := qh fun j x hx => by
    rw [List.set_append_left _ _ (by rw [List.length_set]; exact HLT.out), List.set_set, List.append_assoc, List.take_add_one, hx]; rfl
   have HA3 : Hid (∀ j, j ≤ 4 → (L.set k (n.qaX LN j) ++ KL.take j).length = LN + j) := qh fun j hj => by
    rw [List.length_append, List.length_set, List.length_take, H4.out, ← HN.out]; omega
   have HKX : Hid (∀ j, j < 4 → ∃ x, KL[j]? = some x) := qh fun j hj => ⟨_, List.getElem?_eq_getElem (by rw [H4.out]; exact hj)⟩
   clear TM
   go_wp2_with fail
   go_loopg [12] 4 (fun gh v12 wx => ∃ (j : Nat) (vm : Value), j + gh = 4 ∧ v12 = .int .i64 (j : Int) ∧ RfM wx base p vm u (L.set k (n.qaX LN j) ++ KL.take j) ∧ Bx wx c (qbT KL) ∧ Far (TrB p (Value.slice (some ⟨gt, ot, none⟩) L.length ct)) w wx ∧ (vm.ownBlock = (Value.slice (some ⟨gt, ot, none⟩) L.length ct).ownBlock ∨ ∀ i, vm.ownBlock = some i → w.heap.size ≤ i) ∧ ∀ i, vm.ownBlock = some i → i ≠ c)
   case atStart => exact ⟨0, _, rfl, rfl, HA0.out, B8.out, HF0.out, .inl rfl, HO0.out⟩
   case round =>
    clear HA0 HF0 HO0 B8 HK
    obtain ⟨j, vm, hjg, rfl, hM2, hb8, hF2, hv2, ho2⟩ := hrel
    have HM2 := qh hM2
    have B8 := qh hb8
    have HF2 := qh hF2
    have HV2 := qh hv2
    have HO2 := qh ho2
    obtain ⟨NJ, hNJ⟩ : ∃ NJ, NJ = (L.set k (n.qaX LN j) ++ KL.take j).length := ⟨_, rfl⟩
    have hnj : NJ = LN + j := hNJ.trans (HA3.out j (by omega))
    obtain ⟨g, off, cap, hvm, hbg, hgl, hgp, hcell, hfr⟩ := hM2.form (by rw [← hNJ]; have := HLT.out; have := HN.out; omega)
    rw [← hNJ] at hvm
    subst hvm
    have p1 := hM2.box.c 12 rfl
    have hkN : (k : Int) < (NJ : Int) := by have := HLT.out; have := HN.out; omega
    have HNJ := qh hNJ
    have HNJ2 := qh hnj
    have HGP := qh hgp
    have HGC := qh (show g ≠ c from ho2 g rfl)
    clear hNJ hnj hM2 hb8 hF2 hv2 ho2 hgp
    cases gk with
    | zero =>
     obtain rfl : j = 4 := by omega
     have hc8 : wr.cell? ⟨g, off + k * 14 + 8, none⟩ = some (.int .u8 ((n.qaX LN 4).told : Int)) := by rw [Nat.add_assoc]; exact hcell k _ 8 _ (HA1.out 4) rfl
     have hc9 : wr.cell? ⟨g, off + k * 14 + 9, none⟩ = some (.bool (n.qaX LN 4).par) := by rw [Nat.add_assoc]; exact hcell k _ 9 _ (HA1.out 4) rfl
     have hf8 : wr.frozen? ⟨g, off + k * 14 + 8, none⟩ = false := by rw [Nat.add_assoc]; exact hfr k 8 (by have := HLT.out; have := HNJ2.out; have := HNJ.out; have := HN.out; omega) (by omega)
     have hf9 : wr.frozen? ⟨g, off + k * 14 + 9, none⟩ = false := by rw [Nat.add_assoc]; exact hfr k 9 (by have := HLT.out; have := HNJ2.out; have := HNJ.out; have := HN.out; omega) (by omega)
     clear hcell hfr
     generalize (n.qaX LN 4).told = tq at hc8
     generalize (n.qaX LN 4).par = pq at hc9
     have hc8n : (wr.setCell ⟨g, off + k * 14 + 9, none⟩ (.bool true)).cell? ⟨g, off + k * 14 + 8, none⟩ = some (.int .u8 (tq : Int)) := (World.cell?_setCell_other _ _ _ _ (by intro e; injection e with _ e; omega)).trans hc8
     have hf8n : (wr.setCell ⟨g, off + k * 14 + 9, none⟩ (.bool true)).frozen? ⟨g, off + k * 14 + 8, none⟩ = false := (World.frozen?_setCell _ _ _ _).trans hf8
     have hp1n : (wr.setCell ⟨g, off + k * 14 + 9, none⟩ (.bool true)).cell? ⟨p, 12, none⟩ = some (.slice (some ⟨g, off, none⟩) NJ cap) := (World.cell?_setCell_other _ _ _ _ (by intro e; injection e with e; exact HGP.out e)).trans p1
     have hkk : k < (L.set k (n.qaX LN 4) ++ KL.take 4).length := (List.getElem?_eq_some_iff.1 (HA1.out 4)).1
     have hO := HM2.out.own
     rw [← HNJ.out] at hO
     have h5 := (hO.put (j := k * 14 + 9) (by rw [HNJ.out]; omega) (.bool true)).put (j := k * 14 + 8) (by rw [HNJ.out]; omega) (.int .u8 0)
     rw [qka (HA1.out 4)] at h5
     simp only [← Nat.add_assoc] at h5
     have eL : (L.set k (n.qaX LN 4) ++ KL.take 4).set k { n.qaX LN 4 with par := true, told := 0 } = L.set k (n.parted L.length) ++ KL := by
      rw [List.set_append_left _ _ (by rw [List.length_set]; exact HLT.out), List.set_set, List.take_of_length_le (by rw [H4.out]; omega), HN.out]; rfl
     rw [eL] at h5
     have hGR : qbm (L.set k (n.parted L.length) ++ KL) := by
      obtain ⟨G0, t0, a0, a1, a2, a3⟩ := HKS.out 0 (by omega)
      obtain ⟨G1', t1, b0, b1, b2, b3⟩ := HKS.out 1 (by omega)
      obtain ⟨G2', t2, d0, d1, d2, d3⟩ := HKS.out 2 (by omega)
      obtain ⟨G3', t3, e0, e1, e2, e3⟩ := HKS.out 3 (by omega)
      have h4 := H4.out
      match KL, h4, a3, b3, d3, e3 with
      | [x0, x1, x2, x3], _, a3, b3, d3, e3 =>
       cases a0; cases b0; cases d0; cases e0
       cases a3; cases b3; cases d3; cases e3
       exact GR.out q0 q1 q2 q3 t0 t1 t2 t3 HQQ.out a2 b2 d2 e2 a1 b1 d1 e1
     have hlen : (L.set k (n.parted L.length) ++ KL).length = L.length + 4 := by rw [List.length_append, List.length_set, H4.out]
     have hNJL : NJ = (L.set k (n.parted L.length) ++ KL).length := by rw [hlen, HNJ2.out, HN.out]
     have h7 := (HM2.out.box.far ⟨g, off + k * 14 + 9, none⟩ HGP.out.symm (.bool true)).far ⟨g, off + k * 14 + 8, none⟩ HGP.out.symm (.int .u8 0)
     have hqg : g < w.heap.size → TrB p (Value.slice (some ⟨gt, ot, none⟩) L.length ct) g := fun hlt => by
      rcases HV2.out with h | h
      ·exact .inr (by rw [← h]; rfl)
      ·exact absurd (h g rfl) (by omega)
     have h8 := (HF2.out.set ⟨g, off + k * 14 + 9, none⟩ (.bool true) hqg).set ⟨g, off + k * 14 + 8, none⟩ (.int .u8 0) hqg
     have HPO := qh (show qfc w base p (.slice (some ⟨gt, ot, none⟩) L.length ct) u L (.returned (.bool true)) ((wr.setCell ⟨g, off + k * 14 + 9, none⟩ (.bool true)).setCell ⟨g, off + k * 14 + 8, none⟩ (.int .u8 0)) from
      ⟨true, _, .slice (some ⟨g, off, none⟩) NJ cap, rfl, hGR, hlen, ⟨h7, by rw [← hNJL]; exact h5, HM.out.ge, fun i hi => by cases hi; exact HGP.out⟩, h8, HV2.out⟩)
     clear hO h5 eL hGR hlen hNJL h7 hqg h8 hkk
     go_wp2_with fail
     exact bodyPost_ret (v := .bool true) (by simp [results, results61, go_sem]) rfl HPO.out
    | succ gj =>
     obtain ⟨x, hx⟩ := HKX.out j (by omega)
     have hjI : (j : Int) < 4 := by omega
     have hj0 : (0 : Int) ≤ (j : Int) := by omega
     have ewj : IntKind.i64.wrap ((j : Int) + 1) = ((j + 1 : Nat) : Int) := by rw [IntWalk.i64_in _ (by omega)]; omega
     obtain ⟨cv, hcv⟩ : ∃ cv, wr.cell? ⟨g, off + k * 14 + 10 + j, none⟩ = some cv := by
      have h1 := fun x hx => hcell k _ (10 + j) x (HA1.out j) hx
      rcases (show j = 0 ∨ j = 1 ∨ j = 2 ∨ j = 3 by omega) with rfl | rfl | rfl | rfl
      ·exact ⟨_, by rw [Nat.add_assoc, Nat.add_assoc]; exact h1 _ rfl⟩
      ·exact ⟨_, by rw [Nat.add_assoc, Nat.add_assoc]; exact h1 _ rfl⟩
      ·exact ⟨_, by rw [Nat.add_assoc, Nat.add_assoc]; exact h1 _ rfl⟩
      ·exact ⟨_, by rw [Nat.add_assoc, Nat.add_assoc]; exact h1 _ rfl⟩
     have hkk : k < (L.set k (n.qaX LN j) ++ KL.take j).length := (List.getElem?_eq_some_iff.1 (HA1.out j)).1
     have hfv : wr.frozen? ⟨g, off + k * 14 + 10 + j, none⟩ = false := by rw [Nat.add_assoc, Nat.add_assoc]; exact hfr k (10 + j) hkk (by omega)
     have hO := HM2.out.own
     rw [← HNJ.out] at hO
     have h5 := hO.put (j := k * 14 + (10 + j)) (by rw [HNJ.out]; omega) (.int .i64 (NJ : Int))
     rw [qft _ k _ (n.qaX LN (j + 1)) (10 + j) _ (HA1.out j) (by omega) (by rw [HNJ2.out]; exact qjY n LN (by omega))] at h5
     simp only [← Nat.add_assoc] at h5
     have HO5 := qh h5
     have HB5 := qh (HM2.out.box.far ⟨g, off + k * 14 + 10 + j, none⟩ HGP.out.symm (.int .i64 (NJ : Int)))
     have HC5 := qh (B8.out.far ⟨g, off + k * 14 + 10 + j, none⟩ HGC.out.symm (.int .i64 (NJ : Int)))
     have hqg : g < w.heap.size → TrB p (Value.slice (some ⟨gt, ot, none⟩) L.length ct) g := fun hlt => by
      rcases HV2.out with h | h
      ·exact .inr (by rw [← h]; rfl)
      ·exact absurd (h g rfl) (by omega)
     have HF5 := qh (HF2.out.set ⟨g, off + k * 14 + 10 + j, none⟩ (.int .i64 (NJ : Int)) hqg)
     have HX := qh hx
     have HBG2 := qh hbg
     have HGL2 := qh (show g < (wr.setCell ⟨g, off + k * 14 + 10 + j, none⟩ (.int .i64 (NJ : Int))).heap.size by simp [World.setCell]; exact hgl)
     clear hO h5 hqg hcell hfr hkk hx HF2 B8 HM2 hbg hgl
     go_upto_region 18 with fail
     have hS0 : wr.drew.cell? ⟨p, 12, none⟩ = some (.slice (some ⟨g, off, none⟩) NJ cap) := p1
     have hcv2 : wr.drew.cell? ⟨g, off + k * 14 + 10 + j, none⟩ = some cv := hcv
     have hfv2 : wr.drew.frozen? ⟨g, off + k * 14 + 10 + j, none⟩ = false := hfv
     refine qab (fun W => W.cell? ⟨p, 12, none⟩ = some (.slice (some ⟨g, off, none⟩) NJ cap)) [14] (by kernel_rfl) ?_ (fun hHeld => ?_)
     ·assumption
     refine wS 0 78 ?_
     refine wS 1 79 ?_
     refine wS 2 80 ?_
     refine wS 3 81 ?_
     refine wS 4 82 ?_
     refine wS 5 83 ?_
     refine wS 6 84 ?_
     refine wS 7 85 ?_
     refine wS 8 86 ?_
     refine wS 9 87 ?_
     refine wS 10 88 ?_
     refine wS 11 89 ?_
     refine wS 12 90 ?_
     refine wS 13 91 ?_
     refine eS 14 fun K hK => ?_
     go_simp
     refine hK.out _ _ ?_
     clear hK K
     try simp only [Act.put, tdy]
     refine dS ?_ _
     have HO6 : Hid (Own (wr.setCell ⟨g, off + k * 14 + 10 + j, none⟩ (.int .i64 (NJ : Int))).drew base 14 (.slice (some ⟨g, off, none⟩) NJ cap) NJ (qbT ((L.set k (n.qaX LN j) ++ KL.take j).set k (n.qaX LN (j + 1))))) := HO5
     have HB6 : Hid (Bx (wr.setCell ⟨g, off + k * 14 + 10 + j, none⟩ (.int .i64 (NJ : Int))).drew p (ruL u ++ [.slice (some ⟨g, off, none⟩) NJ cap])) := HB5
     have HC6 : Hid (Bx (wr.setCell ⟨g, off + k * 14 + 10 + j, none⟩ (.int .i64 (NJ : Int))).drew c (qbT KL)) := HC5
     have HF6 := qh (show Far (TrB p (Value.slice (some ⟨gt, ot, none⟩) L.length ct)) w (wr.setCell ⟨g, off + k * 14 + 10 + j, none⟩ (.int .i64 (NJ : Int))).drew from HF5.out.drew)
     have HGL6 : Hid (g < (wr.setCell ⟨g, off + k * 14 + 10 + j, none⟩ (.int .i64 (NJ : Int))).drew.heap.size) := HGL2
     clear HO5 HB5 HC5 HF5 HGL2 hcv hfv hcv2 hfv2 hHeld hS0 p1
     generalize (wr.setCell ⟨g, off + k * 14 + 10 + j, none⟩ (.int .i64 (NJ : Int))).drew = w6 at *
     obtain ⟨⟨⟨x0, x1, x2⟩, ⟨x3, x4, x5⟩, x6⟩, xd, xt, xp, y0, y1, y2, y3⟩ := x
     have HRG := qh (HC6.out.range (o := j * 14) (cs := [.bool x0, .string x1, .int .i64 x2, .bool x3, .string x4, .int .i64 x5, .int .i64 x6, .int .i64 (xd : Int), .int .u8 (xt : Int), .bool xp, .int .i64 (y0 : Int), .int .i64 (y1 : Int), .int .i64 (y2 : Int), .int .i64 (y3 : Int)]) (fun i v hv => (qfy KL j _ i HX.out (List.getElem?_eq_some_iff.1 hv).1).trans hv))
     go_upto_region 19 with fail
     have hS0 : w6.drew.cell? ⟨p, 12, none⟩ = some (.slice (some ⟨g, off, none⟩) NJ cap) ∧ w6.drew.rangeAt c (j * 14) [.bool x0, .string x1, .int .i64 x2, .bool x3, .string x4, .int .i64 x5, .int .i64 x6, .int .i64 (xd : Int), .int .u8 (xt : Int), .bool xp, .int .i64 (y0 : Int), .int .i64 (y1 : Int), .int .i64 (y2 : Int), .int .i64 (y3 : Int)] := ⟨HB6.out.c 12 rfl, HRG.out⟩
     refine qab (fun W => W.cell? ⟨p, 12, none⟩ = some (.slice (some ⟨g, off, none⟩) NJ cap) ∧ W.rangeAt c (j * 14) [.bool x0, .string x1, .int .i64 x2, .bool x3, .string x4, .int .i64 x5, .int .i64 x6, .int .i64 (xd : Int), .int .u8 (xt : Int), .bool xp, .int .i64 (y0 : Int), .int .i64 (y1 : Int), .int .i64 (y2 : Int), .int .i64 (y3 : Int)]) [12] (by kernel_rfl) ?_ (fun hHeld => ?_)
     ·(first | assumption | exact ⟨(HB6.out.kept (Kept.new (Below.refl _ _) _)).c 12 rfl, World.rangeAt_alloc HRG.out _⟩)
     refine wS 0 92 ?_
     refine wS 1 93 ?_
     refine wS 2 94 ?_
     refine wS 3 95 ?_
     refine wS 4 96 ?_
     refine wS 5 97 ?_
     refine wS 6 98 ?_
     refine yS (v := .agg #[.bool x0, .string x1, .int .i64 x2, .bool x3, .string x4, .int .i64 x5, .int .i64 x6, .int .i64 (xd : Int), .int .u8 (xt : Int), .bool xp, .int .i64 (y0 : Int), .int .i64 (y1 : Int), .int .i64 (y2 : Int), .int .i64 (y3 : Int)]) 7 99 ?_ ?_
     ·intro w hSw; (try dsimp only at hSw); exact qba (vs := [.bool x0, .string x1, .int .i64 x2, .bool x3, .string x4, .int .i64 x5, .int .i64 x6, .int .i64 (xd : Int), .int .u8 (xt : Int), .bool xp, .int .i64 (y0 : Int), .int .i64 (y1 : Int), .int .i64 (y2 : Int), .int .i64 (y3 : Int)]) _ rfl rfl hSw.2 underlying104 rfl (by kernel_rfl)
     try simp only [Act.put, tdy]
     refine oS 8 fun K hK => ?_
     go_simp
     refine hK.out _ _ ?_ (fun hHeld => ?_)
     ·(first | assumption | exact ⟨(HB6.out.kept (Kept.new (Below.refl _ _) _)).c 12 rfl, World.rangeAt_alloc HRG.out _⟩)
     clear hK K
     try simp only [Act.put, tdy]
     refine qdC (i := 9) (by kernel_rfl) rfl (fun K hK => ?_)
     obtain ⟨i0, hi, hi0, hi1, hi2⟩ := info_parts qok
     refine qdd _ rfl _ _ 78 rfl base 104 i0 (.agg #[.bool false, .string ⟨#[]⟩, .int .i64 0, .bool false, .string ⟨#[]⟩, .int .i64 0, .int .i64 0, .int .i64 0, .int .u8 0, .bool false, .int .i64 0, .int .i64 0, .int .i64 0, .int .i64 0]) 14 120 underlying78 hi hi0 hi1 hi2 rfl (by decide) (.slice (some ⟨g, off, none⟩) NJ cap) NJ (qbT ((L.set k (n.qaX LN j) ++ KL.take j).set k (n.qaX LN (j + 1)))) rfl (HO6.out.alloc _) (some ⟨w6.heap.size, 0, none⟩) 1 1 [.bool x0, .string x1, .int .i64 x2, .bool x3, .string x4, .int .i64 x5, .int .i64 x6, .int .i64 (xd : Int), .int .u8 (xt : Int), .bool xp, .int .i64 (y0 : Int), .int .i64 (y1 : Int), .int .i64 (y2 : Int), .int .i64 (y3 : Int)] rfl rfl (Row.qbA _ _ _ _ _ _ rfl rfl) (by rw [show [.bool x0, .string x1, .int .i64 x2, .bool x3, .string x4, .int .i64 x5, .int .i64 x6, .int .i64 (xd : Int), .int .u8 (xt : Int), .bool xp, .int .i64 (y0 : Int), .int .i64 (y1 : Int), .int .i64 (y2 : Int), .int .i64 (y3 : Int)] = rdV ⟨⟨⟨x0, x1, x2⟩, ⟨x3, x4, x5⟩, x6⟩, xd, xt, xp, y0, y1, y2, y3⟩ from rfl, ← qiO]; exact qin _) (by have := HLN.out; have := HNJ2.out; have := HN.out; unfold maxLen; omega) (by have := HLN.out; have := HNJ2.out; have := HN.out; omega) (by have h1 := HGL6.out; have h2 := HBG2.out; simp; omega) ?_
     intro v9 w9 hown9 hg9 hv9
     obtain ⟨A9, c9, rfl, -, -, -, -, -⟩ := hown9.form
     have hKX : Kept w6 (w6.drew.alloc (.cells [.bool x0, .string x1, .int .i64 x2, .bool x3, .string x4, .int .i64 x5, .int .i64 x6, .int .i64 (xd : Int), .int .u8 (xt : Int), .bool xp, .int .i64 (y0 : Int), .int .i64 (y1 : Int), .int .i64 (y2 : Int), .int .i64 (y3 : Int)].toArray 104)) := Kept.new (Below.refl _ w6).drew _
     have BP9 := (HB6.out.kept hKX).grown (q := g) hg9 HGP.out.symm
     have BC9 := (HC6.out.kept hKX).grown (q := g) hg9 HGC.out.symm
     have hS9 : w9.cell? ⟨p, 12, none⟩ = some (.slice (some ⟨g, off, none⟩) NJ cap) ∧ w9.rangeAt c (j * 14) [.bool x0, .string x1, .int .i64 x2, .bool x3, .string x4, .int .i64 x5, .int .i64 x6, .int .i64 (xd : Int), .int .u8 (xt : Int), .bool xp, .int .i64 (y0 : Int), .int .i64 (y1 : Int), .int .i64 (y2 : Int), .int .i64 (y3 : Int)] := ⟨BP9.c 12 rfl, BC9.range (fun i v hv => (qfy KL j ⟨⟨⟨x0, x1, x2⟩, ⟨x3, x4, x5⟩, x6⟩, xd, xt, xp, y0, y1, y2, y3⟩ i HX.out (List.getElem?_eq_some_iff.1 hv).1).trans hv)⟩
     have q1 := BP9.f 12
     refine hK.out _ _ hS9 (fun hHeld => ?_)
     clear hK K
     try simp only [Act.put, tdy]
     refine wS 10 102 ?_
     refine wS 11 103 ?_
     refine eS 12 fun K hK => ?_
     go_simp
     refine hK.out _ _ ?_
     clear hK K
     try simp only [Act.put, tdy]
     refine dS ?_ _
     have hsz9 : w6.heap.size < w9.heap.size := by have h1 := hg9.size; simp at h1; omega
     have hnw : ∀ i, (Value.slice A9 (NJ + 1) c9).ownBlock = some i → i = g ∨ w6.heap.size < i := fun i hi => hv9.elim (fun h => .inl (by rw [h] at hi; exact (Option.some.inj hi).symm)) (fun h => .inr (by have h2 := h i hi; simp at h2; omega))
     have hpw := HB6.out.lt
     have hcw := HC6.out.lt
     have h9p : ∀ i, (Value.slice A9 (NJ + 1) c9).ownBlock = some i → i ≠ p := fun i hi => by
      rcases hnw i hi with rfl | h
      ·exact HGP.out
      ·omega
     have h9c : ∀ i, (Value.slice A9 (NJ + 1) c9).ownBlock = some i → i ≠ c := fun i hi => by
      rcases hnw i hi with rfl | h
      ·exact HGC.out
      ·omega
     have hown : Own w9 base 14 (.slice A9 (NJ + 1) c9) (NJ + 1) (qbT (L.set k (n.qaX LN (j + 1)) ++ KL.take (j + 1))) := by
      rw [← HA2.out j ⟨⟨⟨x0, x1, x2⟩, ⟨x3, x4, x5⟩, x6⟩, xd, xt, xp, y0, y1, y2, y3⟩ HX.out, qdJ, qiO]; exact hown9
     have hlen9 : NJ + 1 = (L.set k (n.qaX LN (j + 1)) ++ KL.take (j + 1)).length := by rw [HA3.out (j + 1) (by omega), HNJ2.out]; omega
     have hqg : g < w.heap.size → TrB p (Value.slice (some ⟨gt, ot, none⟩) L.length ct) g := fun hlt => by
      rcases HV2.out with h | h
      ·exact .inr (by rw [← h]; rfl)
      ·exact absurd (h g rfl) (by omega)
     have HM9 := qh (show RfM (w9.setCell ⟨p, 12, none⟩ (.slice A9 (NJ + 1) c9)) base p (.slice A9 (NJ + 1) c9) u (L.set k (n.qaX LN (j + 1)) ++ KL.take (j + 1)) from ⟨BP9.set 12 _ (by show 12 < 13; omega), by rw [← hlen9]; exact hown.far h9p _, HM.out.ge, h9p⟩)
     have HC9 := qh (BC9.far ⟨p, 12, none⟩ HPC.out.symm (.slice A9 (NJ + 1) c9))
     have HF9 := qh (((HF6.out.then hKX).trans (Far.qjy (s := fun i => i = g) hg9 (fun i hi => (Option.some.inj hi).symm)) (fun i hi e => by subst e; exact hqg hi)).set ⟨p, 12, none⟩ (.slice A9 (NJ + 1) c9) (fun _ => .inl rfl))
     have HV9 : Hid ((Value.slice A9 (NJ + 1) c9).ownBlock = (Value.slice (some ⟨gt, ot, none⟩) L.length ct).ownBlock ∨ ∀ i, (Value.slice A9 (NJ + 1) c9).ownBlock = some i → w.heap.size ≤ i) := qh (hv9.elim (fun h => by rw [h]; exact HV2.out) (fun h => .inr fun i hi => by have h1 := h i hi; have h2 := HF6.out.size; simp at h1; omega))
     have HO9 := qh h9c
     clear hsz9 hnw hpw hcw h9p h9c hown hlen9 hqg BP9 BC9 hKX hS9 hHeld q1 hown9 hg9 hv9 hS0 HO6 HB6 HC6 HF6 HGL6
     generalize w9.setCell ⟨p, 12, none⟩ (.slice A9 (NJ + 1) c9) = w10 at *
     go_wp2_with fail
     go_roundg gj
     case measure => omega
     case rel => exact ⟨j + 1, _, by omega, by go_num, HM9.out, HC9.out, HF9.out, HV9.out, HO9.out⟩
  | succ gm =>
   obtain ⟨G, hG, hGo, hGc⟩ := HQ.out m (by omega)
   have HG := qh hG
   have HGC := qh hGc
   have CV : Hid (∀ W, Calls prog 41 #[.agg (qb6 G).toArray] W fun en w' => ∃ c1 c2 r : Nat, c1 < 18446744073709551616 ∧ c2 < 18446744073709551616 ∧ r < 18446744073709551616 ∧ en = .returned (.tuple #[.agg #[.complex .f64 c1 c2, .float .f64 r], .int .i64 (qaj G).2]) ∧ Kept W w') := qh fun W => qgI G W hGo
   have hm4 : (m : Int) < 4 := by omega
   have hm0 : (0 : Int) ≤ (m : Int) := by omega
   clear hG hGo hGc
   go_upto_region 11 with fail
   refine wp_region_list ?_
   refine wpList_plain rfl fun K hK => ?_
   go_step
   refine hK _ _ ?_
   clear hK K
   refine wpList_plain rfl fun K hK => ?_
   go_step
   refine hK _ _ ?_
   clear hK K
   refine wpList_plain rfl fun K hK => qav (vs := qb6 G) (g := b) (off := m * 7) (n := 7) _ rfl rfl (fun i z hz => B5.out.c _ (HGC.out i z hz)) rfl underlying26 rfl (by kernel_rfl) (hK _ _ ?_)
   clear hK K
   refine wpList_plain rfl fun K hK => ?_
   go_step
   (with_reducible refine (CV.out _).mono ?_)
   rintro e w11 ⟨c1, c2, c3, hc1, hc2, hc3, rfl, hk11⟩
   refine hK _ _ ?_
   clear hK K CV
   obtain ⟨ce, hce⟩ : ∃ ce, ce = (qaj G).2 := ⟨_, rfl⟩
   rw [← hce]
   have HCE := qh hce
   clear hce
   refine wpList_plain rfl fun K hK => ?_
   go_step
   refine hK _ _ ?_
   clear hK K
   refine wpList_plain rfl fun K hK => ?_
   go_step
   refine hK _ _ ?_
   clear hK K
   refine wpList_plain rfl fun K hK => ?_
   go_step
   refine hK _ _ ?_
   clear hK K
   refine wpList_plain rfl fun K hK => ?_
   go_step
   refine hK _ _ ?_
   clear hK K
   have hcw := B8.out.lt
   have K11 := qh (Kept.new (HK.out.trans' hk11) (.cells #[.complex .f64 0 0, .float .f64 0] 85))
   have hk12 := Kept.new hk11 (.cells #[.complex .f64 0 0, .float .f64 0] 85)
   have BB := qh (Bx.new w11 [.complex .f64 0 0, .float .f64 0] 85 w11.heap.size rfl)
   replace B8 := qh (B8.out.kept hk12)
   replace B5 := qh (B5.out.kept hk12)
   replace B3 := qh (B3.out.kept hk12)
   obtain ⟨d, hd⟩ : ∃ d, d = w11.heap.size := ⟨_, rfl⟩
   have HCD := qh (show c < d by have h1 := hk11.size; omega)
   have HGD := qh (show w.heap.size ≤ d by have h1 := (HK.out.trans' hk11).size; omega)
   rw [← hd] at BB ⊢
   clear hd hk12 hk11 hcw HK
   generalize World.alloc w11 _ = w12 at *
   refine wpList_plain rfl fun K hK => qaa (vs := [.complex .f64 c1 c2, .float .f64 c3]) (b := d) (n := 2) _ _ rfl rfl rfl BB.out rfl rfl (by kernel_rfl) rfl (hK _ _ ?_)
   clear hK K
   replace BB := qh (BB.out.row [.complex .f64 c1 c2, .float .f64 c3])
   replace B8 := qh (B8.out.off (g := d) (by have := HCD.out; omega) [.complex .f64 c1 c2, .float .f64 c3])
   replace B5 := qh (B5.out.off (g := d) (by have := HCD.out; have := HCB.out; omega) [.complex .f64 c1 c2, .float .f64 c3])
   replace B3 := qh (B3.out.off (g := d) (by have := HCD.out; have := HCB.out; have := HBY.out; omega) [.complex .f64 c1 c2, .float .f64 c3])
   replace K11 := qh (Kept.row K11.out HGD.out [.complex .f64 c1 c2, .float .f64 c3])
   generalize World.setRow w12 _ _ = w13 at *
   by_cases hce0 : ce = 0
   ·subst hce0
    have hnw : IntKind.i64.wrap ((nd : Int) + 1) = ((nd + 1 : Nat) : Int) := by have h1 := G3.out; have h2 := HND.out; rw [IntWalk.i64_in _ (by omega)]; omega
    have TD := qh (fun W => qjn u HU.out c1 c2 c3 hc1 hc2 hc3 W)
    have HTT := qh (qh9 u c1 c2 c3)
    obtain ⟨tt, htt⟩ : ∃ tt, tt = qfK u c1 c2 c3 := ⟨_, rfl⟩
    rw [← htt] at TD HTT
    clear htt
    obtain ⟨RV, hRV⟩ : ∃ RV : List Value, RV = ruL u := ⟨_, rfl⟩
    have HRL := qh (show RV.length = 12 by rw [hRV]; rfl)
    go_upto_region 14 with fail
    have SK : Hid (∀ W, Kept w13 W → W.rangeAt b (m * 7) (qb6 G) ∧ W.cell? ⟨y, 7, none⟩ = some (.int .i64 (nd : Int)) ∧ W.rangeAt p 0 (ruL u) ∧ W.rangeAt d 0 [.complex .f64 c1 c2, .float .f64 c3]) := qh fun W h => ⟨(B5.out.kept h).range HGC.out, (B3.out.kept h).c 7 (by rw [HND.out]; rfl), ((HM.out.box.kept K11.out).kept h).range (fun j v hv => by rw [Nat.zero_add]; exact (List.getElem?_append_left (List.getElem?_eq_some_iff.1 hv).1).trans hv), (BB.out.kept h).range (fun j v hv => by rw [Nat.zero_add]; exact hv)⟩
    have hS0 := SK.out _ (Below.refl _ w13).drew
    rw [← hRV] at TD SK hS0
    clear hRV
    refine qab (fun W => W.rangeAt b (m * 7) (qb6 G) ∧ W.cell? ⟨y, 7, none⟩ = some (.int .i64 (nd : Int)) ∧ W.rangeAt p 0 (RV) ∧ W.rangeAt d 0 [.complex .f64 c1 c2, .float .f64 c3]) [15] (by kernel_rfl) ?_ (fun hHeld => ?_)
    ·(first | assumption)
    refine wS 0 59 ?_
    refine wS 1 60 ?_
    refine wS 2 61 ?_
    refine yS (v := .agg (qb6 G).toArray) 3 62 ?_ ?_
    ·intro w hSw; (try dsimp only at hSw); exact qba (vs := qb6 G) _ rfl rfl hSw.1 underlying26 rfl (by kernel_rfl)
    try simp only [Act.put, tdy]
    refine wS 4 63 ?_
    refine wS 5 64 ?_
    refine wS 6 65 ?_
    refine wS 7 66 ?_
    refine wS 8 67 ?_
    refine wS 9 68 ?_
    refine yS (v := .agg RV.toArray) 10 69 ?_ ?_
    ·intro w hSw; (try dsimp only at hSw); exact qba (vs := RV) _ rfl rfl hSw.2.2.1 underlying31 rfl (by rw [HRL.out]; kernel_rfl)
    try simp only [Act.put, tdy]
    refine yS (v := .agg #[.complex .f64 c1 c2, .float .f64 c3]) 11 70 ?_ ?_
    ·intro w hSw; (try dsimp only at hSw); exact qba (vs := [.complex .f64 c1 c2, .float .f64 c3]) _ rfl rfl hSw.2.2.2 underlying85 rfl (by kernel_rfl)
    try simp only [Act.put, tdy]
    refine oS 12 fun K hK => ?_
    go_simp
    (refine (TD.out _).mono ?_; rintro en w15 ⟨rfl, hk15⟩; have K15 : Hid (Kept w13 w15) := qh ((Below.refl _ w13).drew.trans (hk15.mono (Nat.le_refl _))); have hS15 := SK.out w15 K15.out)
    refine hK.out _ _ ?_ (fun hHeld => ?_)
    ·(first | assumption)
    clear hK K
    try simp only [Act.put, tdy]
    refine yS (v := .agg (rdV (qcI n G tt)).toArray) 13 72 ?_ ?_
    ·intro w hSw; exact qfH (rdV (qcI n G tt)) rfl (by rw [HND.out]; kernel_rfl)
    try simp only [Act.put, tdy]
    refine wS 14 73 ?_
    refine qgT (i := 15) (by kernel_rfl) rfl (by kernel_rfl) (fun K hK => ?_)
    refine qbC rfl (wp_store_mid _ _ _ rfl c (m * 14) (rdV (qcI n G tt)).toArray rfl rfl ((B8.out.kept K15.out).there (by rw [qdK, H4.out]; show m * 14 + 14 ≤ _; omega)) (by kernel_rfl) (all_oneCell_toArray (fun v hv => List.all_eq_true.1 (qgh _) v hv)) ?_)
    refine hK.out _ _ ?_
    clear hK K
    try simp only [Act.put, tdy]
    refine dS ?_ _
    have K16 := qh (Kept.setCells (g := c) (by have := HBG.out; have := HCB.out; omega) (rdV (qcI n G tt)) (m * 14) (K11.out.trans' K15.out))
    have B816 := qh (show Bx _ c (qbT (KL.set m (qcI n G tt))) by (rw [← qlu KL m _ (by rw [H4.out]; omega)]; exact (B8.out.kept K15.out).setCells (rdV (qcI n G tt)) (m * 14) (by rw [qdK, H4.out]; show m * 14 + 14 ≤ _; omega)))
    have B516 := qh (Bx.qgM (g := c) (by have := HCB.out; omega) (rdV (qcI n G tt)) (m * 14) (B5.out.kept K15.out))
    have B316 := qh (Bx.qgM (g := c) (by have := HCB.out; have := HBY.out; omega) (rdV (qcI n G tt)) (m * 14) (B3.out.kept K15.out))
    have HKS2 : Hid (∀ j, j < m + 1 → ∃ G' t, [q0, q1, q2, q3][j]? = some G' ∧ t ≤ 2 ∧ (qaj G').2 = 0 ∧ (KL.set m (qcI n G tt))[j]? = some (qcI n G' t)) := qh fun j hj => if hjm : j = m then (by subst hjm; exact ⟨G, tt, HG.out, HTT.out, HCE.out.symm, List.getElem?_set_self (by rw [H4.out]; omega)⟩) else (by rw [List.getElem?_set_ne (fun e => hjm e.symm)]; exact HKS.out j (by omega))
    have H42 := qh (show (KL.set m (qcI n G tt)).length = 4 by (rw [List.length_set]; exact H4.out))
    have ewm : IntKind.i64.wrap ((m : Int) + 1) = ((m + 1 : Nat) : Int) := by (rw [IntWalk.i64_in _ (by omega)]; omega)
    generalize World.setCells _ c (m * 14) _ = w16 at *
    clear hS15 hHeld SK TD hS0 B8 B5 B3 BB K11 K15 HKS HCE hnw
    go_wp2_with fail
    go_roundg gm
    case measure => omega
    case rel => exact ⟨m + 1, _, by omega, by go_num, H42.out, B816.out, HKS2.out, B516.out, B316.out, K16.out⟩
   ·have hne : (ce != 0) = true := by simpa using hce0
    clear hce0
    go_wp2_with fail
    exact bodyPost_ret (v := .bool false) (by simp [results, results61, go_sem]) rfl (PX.out _ K11.out)
end
section
set_option maxHeartbeats 6400000
set_option maxRecDepth 100000
def qf9 (w : World) (base p : Nat) (v : Value) (u : RuD) (L' : List NdR) (w' : World) : Prop :=
 qbm L' ∧ ∃ v', RfM w' base p v' u L' ∧ Far (TrB p v) w w' ∧ (v'.ownBlock = v.ownBlock ∨ ∀ i, v'.ownBlock = some i → w.heap.size ≤ i)
def qkW (w : World) (base p : Nat) (v : Value) (u : RuD) (L : List NdR) (en : Ending) (w' : World) : Prop := ∃ (n e : Int) (b : Bool) (L' : List NdR), en = .returned (.tuple #[.int .i64 n, .int .i64 e, .bool b]) ∧ L.length ≤ L'.length ∧ qf9 w base p v u L' w'
theorem qhA {w : World} {base p : Nat} {v : Value} {u : RuD} {L : List NdR} {k : Nat} (hM : RfM w base p v u L) (hS : qbm L) (hu : u.ok) (hk : k < L.length) :
  Calls prog 61 #[.pointer (some ⟨p, 0, none⟩), .int .i64 (k : Int)] w (qfc w base p v u L) := by
 have hn := List.getElem?_eq_getElem hk
 by_cases h : (L[k]).par = false ∧ (L[k]).told = 0 ∧ (L[k]).depth < 40 ∧ qfs L + 3 ≤ 65536
 ·exact qnG hM hS hu hn h.1 h.2.1 h.2.2.1 h.2.2.2
 ·exact qnc hM hS hn h
theorem qlp {w : World} {base p : Nat} {v : Value} {u : RuD} {L : List NdR} (hM : RfM w base p v u L) (hS : qbm L) (hu : u.ok) :
  Calls prog 28 #[.pointer (some ⟨p, 0, none⟩)] w fun en w' => ∃ (c : Nat) (L' : List NdR), en = .returned (.int .i64 (c : Int)) ∧ L'.length = L.length + 4 * c ∧ qf9 w base p v u L' w' := by
 have LE := qh (qge hM hS)
 have HM := qh hM
 have HS := qh hS
 have HU := qh hu
 have HLN := qh (show (qa3 (stR L)).length ≤ L.length by have := qdR hS.whole; simpa [stR] using this)
 have HLT := qh (show ∀ k ∈ qa3 (stR L), k < L.length by have := qe1 hS.whole; simpa [stR] using this)
 generalize qa3 (stR L) = LP at *
 clear hM hS hu
 go_enter func28, ntmps28
 go_wp2_with fail
 refine LE.out.mono ?_
 rintro e w2 ⟨x, rfl, hx, hk2⟩
 obtain ⟨A, c, rfl, -, -, -, hA, -⟩ := hx.form
 have HX := qh hx
 have HB := qh (fun i hi => hx.lt i hi)
 have HK2 := qh hk2
 have HLL := qh (show LP.length ≤ 87381 by have := HLN.out; have := HS.out.len; omega)
 clear hx hk2 LE hA
 obtain ⟨N, hN⟩ : ∃ N, N = LP.length := ⟨_, rfl⟩
 rw [← hN] at HX HB HLL ⊢
 have HN := qh hN
 clear hN
 go_wp2_with fail
 go_loopg [4, 5] N (fun gh v4 v5 wr => ∃ (j cnt : Nat) (Lm : List NdR) (vm : Value), j + gh = N ∧ v4 = .int .i64 (cnt : Int) ∧ v5 = .int .i64 (j : Int) ∧ cnt ≤ j ∧ Lm.length = L.length + 4 * cnt ∧ RfM wr base p vm u Lm ∧ qbm Lm ∧ Far (TrB p v) w wr ∧
  (vm.ownBlock = v.ownBlock ∨ ∀ i, vm.ownBlock = some i → w.heap.size ≤ i) ∧ Own wr w.heap.size 1 (.slice A N c) N (qa1 LP) ∧ ∀ i, (Value.slice A N c).ownBlock = some i → ¬ TrB p vm i)
 case atStart =>
  exact ⟨0, 0, L, v, by omega, rfl, rfl, Nat.le_refl _, rfl, HM.out.kept HK2.out, HS.out, Far.qcE HK2.out, .inl rfl, HX.out, fun i hi hb => by
   have h1 := (HB.out i hi).1
   have h2 := HM.out.cellsB i hb
   omega⟩
 case round =>
  clear HX HB
  obtain ⟨j, cnt, Lm, vm, hjg, rfl, rfl, hcj, hl2, hM2, hS2, hF2, hv2, hX2, hn2⟩ := hrel
  have HM2 := qh hM2
  have HS2 := qh hS2
  have HF2 := qh hF2
  have HV2 := qh hv2
  have HL2 := qh hl2
  have HX2 := qh hX2
  have HN2 := qh hn2
  clear hM2 hS2 hF2 hv2 hl2 hX2 hn2
  cases gk with
  | zero =>
   obtain rfl : j = N := by omega
   go_wp2_with fail
   go_ret
   exact ⟨cnt, Lm, rfl, HL2.out, HS2.out, vm, HM2.out, HF2.out, HV2.out⟩
  | succ gj =>
   obtain ⟨k, hk⟩ : ∃ k, LP[j]? = some k := ⟨_, List.getElem?_eq_getElem (by have := HN.out; omega)⟩
   have hjN : (j : Int) < (N : Int) := by omega
   have hj0 : (0 : Int) ≤ (j : Int) := by omega
   have hkm : k ∈ LP := List.mem_of_getElem? hk
   obtain ⟨g, off, rfl, hcx⟩ : ∃ g off, A = some ⟨g, off, none⟩ ∧ wr.cell? ⟨g, off + j, none⟩ = some (.int .i64 (k : Int)) := by
    rcases HX2.out.2 with ⟨-, h0⟩ | ⟨g, off, cap, e, -, -, -, -, hx, -⟩
    ·omega
    ·injection e with e1
     exact ⟨g, off, e1, hx j _ (by simp [qa1, hk])⟩
   have hlt := HLT.out k hkm
   have ewj : IntKind.i64.wrap ((j : Int) + 1) = ((j + 1 : Nat) : Int) := by have := HLL.out; rw [IntWalk.i64_in _ (by omega)]; omega
   have PA := qh (qhA (k := k) HM2.out HS2.out HU.out (by have := HL2.out; omega))
   clear hkm hlt hk
   go_wp2_with fail
   refine PA.out.mono ?_
   rintro e w3 ⟨b3, L3, vn, rfl, hgs, hpl, hM3, hF3, hv3⟩
   have HM3 := qh hM3
   have HS3 := qh hgs
   have HF3 := qh (HF2.out.post HV2.out hF3)
   have HV3 := qh (qfp HF2.out.size HV2.out hv3)
   have HX3 := qh (HX2.out.to hF3 (fun i hi => HN2.out i hi))
   have HN3 : Hid (∀ i, (Value.slice (some ⟨g, off, none⟩) N c).ownBlock = some i → ¬ TrB p vn i) := qh fun i hi hb => by
    have h1 := HN2.out i hi
    rcases hb with rfl | hb
    ·exact h1 (.inl rfl)
    ·rcases hv3 with e | e
     ·exact h1 (.inr (e ▸ hb))
     ·have h2 := e i hb
      have h3 := (HX2.out.lt i hi).2
      omega
   clear hM3 hgs hF3 hv3 HM2 HS2 HF2 HV2 HX2 HN2 PA hcx
   cases b3 with
   | false =>
    have HL3 := qh (show L3.length = L.length + 4 * cnt by have := HL2.out; simp at hpl; omega)
    clear hpl HL2
    go_wp2_with fail
    go_roundg gj
    case measure => omega
    case rel => exact ⟨j + 1, cnt, L3, vn, by omega, rfl, by go_num, by omega, HL3.out, HM3.out, HS3.out, HF3.out, HV3.out, HX3.out, HN3.out⟩
   | true =>
    have HL3 := qh (show L3.length = L.length + 4 * (cnt + 1) by have := HL2.out; simp at hpl; omega)
    clear hpl HL2
    have ew : IntKind.i64.wrap ((cnt : Int) + 1) = ((cnt + 1 : Nat) : Int) := by have := HLL.out; rw [IntWalk.i64_in _ (by omega)]; omega
    go_wp2_with fail
    go_roundg gj
    case measure => omega
    case rel => exact ⟨j + 1, cnt + 1, L3, vn, by omega, by go_num, by go_num, by omega, HL3.out, HM3.out, HS3.out, HF3.out, HV3.out, HX3.out, HN3.out⟩
theorem qlW {w : World} {base p : Nat} {v : Value} {u : RuD} {L : List NdR} {D most : Int} (hM : RfM w base p v u L) (hS : qbm L) (hd : D < 0 ∨ 40 < D) :
  Calls prog 29 #[.pointer (some ⟨p, 0, none⟩), .int .i64 D, .int .i64 most] w (qkW w base p v u L) := by
 have PX : qkW w base p v u L (.returned (.tuple #[.int .i64 0, .int .i64 2, .bool false])) w := ⟨0, 2, false, L, rfl, Nat.le_refl _, hS, v, hM, Far.refl _ _, .inl rfl⟩
 clear hM hS
 rcases hd with hd | hd
 ·go_enter func29, ntmps29
  go_wp2_with fail
  exact bodyPost_ret (v := .tuple #[.int .i64 0, .int .i64 2, .bool false]) (by simp [results, results29, go_sem]) rfl PX
 ·have h0 : ¬ D < 0 := by omega
  go_enter func29, ntmps29
  go_wp2_with fail
  exact bodyPost_ret (v := .tuple #[.int .i64 0, .int .i64 2, .bool false]) (by simp [results, results29, go_sem]) rfl PX
theorem qmJ {w : World} {base p : Nat} {v : Value} {u : RuD} {L : List NdR} {D : Nat} {most : Int} (hM : RfM w base p v u L) (hS : qbm L) (hu : u.ok) (hD : D ≤ 40) :
  Calls prog 29 #[.pointer (some ⟨p, 0, none⟩), .int .i64 (D : Int), .int .i64 most] w (qkW w base p v u L) := by
 have HM := qh hM
 have HS := qh hS
 have HU := qh hu
 clear hM hS hu
 have h0 : ¬ (D : Int) < 0 := by omega
 have h40 : ¬ (40 : Int) < (D : Int) := by omega
 go_enter func29, ntmps29
 go_wp2_with fail
 go_loopg [9] 21846 (fun gh v9 wr => ∃ (all : Nat) (Lm : List NdR) (vm : Value), v9 = .int .i64 (all : Int) ∧ Lm.length = L.length + 4 * all ∧ 87385 ≤ Lm.length + 4 * gh ∧ RfM wr base p vm u Lm ∧ qbm Lm ∧ Far (TrB p v) w wr ∧
  (vm.ownBlock = v.ownBlock ∨ ∀ i, vm.ownBlock = some i → w.heap.size ≤ i))
 case atStart => exact ⟨0, L, v, rfl, rfl, by have := HS.out.pos; omega, HM.out, HS.out, Far.refl _ _, .inl rfl⟩
 case round =>
  obtain ⟨all, Lm, vm, rfl, hal, hfu, hM2, hS2, hF2, hv2⟩ := hrel
  have HAL := qh hal
  have HFU := qh hfu
  have HM2 := qh hM2
  have HS2 := qh hS2
  have HF2 := qh hF2
  have HV2 := qh hv2
  have HLN := qh hS2.len
  have DP := qh (qkx hM2 hS2)
  clear hal hfu hM2 hS2 hF2 hv2
  cases gk with
  | zero => have h1 := HFU.out; have h2 := HLN.out; omega
  | succ gj =>
   obtain ⟨md, hmd⟩ : ∃ md, md = qof Lm := ⟨_, rfl⟩
   rw [← hmd] at DP
   clear hmd
   by_cases hlt : md < D
   ·have hltI : (md : Int) < (D : Int) := by omega
    go_wp2_with fail
    refine DP.out.mono ?_
    rintro e w3 ⟨rfl, hk3⟩
    have HM3 := qh (HM2.out.kept hk3)
    have HF3 := qh (HF2.out.then hk3)
    have CN := qh (qe6 HM3.out HS2.out)
    clear hk3 HM2 HF2 DP
    generalize hcc : qfs Lm = cc at CN
    clear hcc
    go_wp2_with fail
    refine CN.out.mono ?_
    rintro e w4 ⟨rfl, hk4⟩
    have HM4 := qh (HM3.out.kept hk4)
    have HF4 := qh (HF3.out.then hk4)
    have ST := qh (qlp HM4.out HS2.out HU.out)
    clear hk4 HM3 HF3 CN
    by_cases hm : most < (cc : Int)
    ·go_wp2_with fail
     exact bodyPost_ret (v := .tuple #[.int .i64 (all : Int), .int .i64 0, .bool true]) (by simp [results, results29, go_sem]) rfl ⟨_, _, _, Lm, rfl, by have := HAL.out; omega, HS2.out, vm, HM4.out, HF4.out, HV2.out⟩
    ·go_wp2_with fail
     refine ST.out.mono ?_
     rintro e w5 ⟨n5, L5, rfl, hl5, hg5, v5, hM5, hF5, hv5⟩
     have HM5 := qh hM5
     have HS5 := qh hg5
     have HF5 := qh (HF4.out.post HV2.out hF5)
     have HV5 := qh (qfp HF4.out.size HV2.out hv5)
     have HL5 := qh (show L5.length = L.length + 4 * (all + n5) by have := HAL.out; omega)
     clear hM5 hg5 hF5 hv5 hl5 HM4 HF4 HV2 ST
     by_cases hn : n5 = 0
     ·have hnI : (((n5 : Nat) : Int) == 0) = true := by subst hn; rfl
      go_wp2_with fail
      exact bodyPost_ret (v := .tuple #[.int .i64 (all : Int), .int .i64 0, .bool false]) (by simp [results, results29, go_sem]) rfl ⟨_, _, _, L5, rfl, by have := HL5.out; omega, HS5.out, v5, HM5.out, HF5.out, HV5.out⟩
     ·have hnI : (((n5 : Nat) : Int) == 0) = false := beq_eq_false_iff_ne.2 (by omega)
      have HNP := qh hn
      have ew : IntKind.i64.wrap ((all : Int) + (n5 : Int)) = ((all + n5 : Nat) : Int) := by have h3 := HL5.out; have h4 := HS5.out.len; rw [IntWalk.i64_in _ (by omega)]; omega
      clear hn
      go_wp2_with fail
      go_roundg gj
      case measure => omega
      case rel => exact ⟨all + n5, L5, v5, by go_num, HL5.out, by have h1 := HFU.out; have h2 := HL5.out; have h3 := HNP.out; have h4 := HAL.out; omega, HM5.out, HS5.out, HF5.out, HV5.out⟩
   ·have hltI : ¬ (md : Int) < (D : Int) := by omega
    go_wp2_with fail
    refine DP.out.mono ?_
    rintro e w3 ⟨rfl, hk3⟩
    have HM3 := qh (HM2.out.kept hk3)
    have HF3 := qh (HF2.out.then hk3)
    clear hk3 HM2 DP
    go_wp2_with fail
    exact bodyPost_ret (v := .tuple #[.int .i64 (all : Int), .int .i64 0, .bool false]) (by simp [results, results29, go_sem]) rfl ⟨_, _, _, Lm, rfl, by have := HAL.out; omega, HS2.out, vm, HM3.out, HF3.out, HV2.out⟩
theorem qlH {w : World} {base p : Nat} {v : Value} {u : RuD} {L : List NdR} {D most : Int} (hM : RfM w base p v u L) (hS : qbm L) (hu : u.ok) :
  Calls prog 29 #[.pointer (some ⟨p, 0, none⟩), .int .i64 D, .int .i64 most] w (qkW w base p v u L) := by
 by_cases hd : D < 0 ∨ 40 < D
 ·exact qlW hM hS hd
 ·obtain ⟨d, rfl⟩ : ∃ d : Nat, D = (d : Int) := ⟨D.toNat, by omega⟩
  exact qmJ hM hS hu (by omega)
end
section
set_option maxHeartbeats 6400000
set_option maxRecDepth 100000
def qo1 (w : World) (L : List NdR) (en : Ending) (w' : World) : Prop := ∃ (k : Nat) (e : Int), en = .returned (.tuple #[.int .i64 (k : Int), .int .i64 e]) ∧ (e = 0 → k < L.length) ∧ Kept w w'
theorem ql8 {w : World} {base p : Nat} {v : Value} {u : RuD} {L : List NdR} (g : GsD) (hM : RfM w base p v u L) (hS : qbm L) (hg : gsB g = true) :
  Calls prog 63 #[.pointer (some ⟨p, 0, none⟩), .agg #[.bool g.re.neg, .string g.re.n, .int .i64 g.re.e, .bool g.im.neg, .string g.im.n, .int .i64 g.im.e]] w (qo1 w L) := by
 have LE := qh (fun W (hk : Kept w W) => qge (hM.kept hk) hS)
 have HOL := qh (fun (s : SqD) (hs : sqB s = true) W => qkm s g W hs hg)
 have HLN := qh (Nat.le_trans (qdR hS.whole) hS.good.len)
 have HLT := qh (show ∀ k ∈ qa3 (stR L), k < L.length by have := qe1 hS.whole; simpa [stR] using this)
 have HGD := qh (fun k n (hn : L[k]? = some n) => (hS.good.nd k n.toD (qgr hn)).sq)
 obtain ⟨gt, ot, ct, hv, -, hgt, -, hcell, -⟩ := hM.form hS.pos
 have HBX := qh hM.box
 rw [hv] at HBX
 have HCL : Hid (∀ W, Kept w W → ∀ (k : Nat) (n : NdR) (i : Nat) (y : Value), L[k]? = some n → (rdV n)[i]? = some y → W.cell? ⟨gt, ot + k * 14 + i, none⟩ = some y) := qh fun W hk k n i y hn hy => by
  rw [Nat.add_assoc]; exact (hk.cells _ _ hgt).trans (hcell k n i y hn hy)
 have HP := qh hM.box.lt
 obtain ⟨LN, hLN⟩ : ∃ LN, LN = L.length := ⟨_, rfl⟩
 have HN := qh hLN
 rw [← hLN] at HBX HLT
 generalize qa3 (stR L) = LP at *
 obtain ⟨⟨r0, r1, r2⟩, ⟨i0, i1, i2⟩⟩ := g
 obtain ⟨GG, hGG⟩ : ∃ GG : GsD, GG = ⟨⟨r0, r1, r2⟩, ⟨i0, i1, i2⟩⟩ := ⟨_, rfl⟩
 simp only at HOL ⊢
 rw [← hGG] at HOL
 clear hM hS hg hv hcell hLN hGG
 go_enter func63, ntmps63
 go_upto_region 1 with fail
 obtain ⟨b, w1, hw, hb, B0, K1, HB⟩ := qa4 w (LC1 r0 r1 r2 i0 i1 i2) 28
 rw [← hw, ← hb]; clear hw hb
 go_wp2_with fail
 refine (LE.out _ K1.out).mono ?_
 rintro e w2 ⟨x, rfl, hx, hk2⟩
 obtain ⟨A, c, rfl, -, -, -, -, -⟩ := hx.form
 have HX := qh hx
 have K2 := qh hk2
 clear hx hk2 LE
 obtain ⟨N, hN⟩ : ∃ N, N = LP.length := ⟨_, rfl⟩
 rw [← hN] at HX HLN ⊢
 have HNP := qh hN
 clear hN
 have SK : Hid (∀ W, Kept w2 W → (W.cell? ⟨b, 0, none⟩ = some (.bool r0) ∧ W.cell? ⟨b, 1, none⟩ = some (.string r1) ∧ W.cell? ⟨b, 2, none⟩ = some (.int .i64 r2) ∧ W.cell? ⟨b, 3, none⟩ = some (.bool i0) ∧ W.cell? ⟨b, 4, none⟩ = some (.string i1) ∧ W.cell? ⟨b, 5, none⟩ = some (.int .i64 i2)) ∧ W.cell? ⟨p, 12, none⟩ = some (.slice (some ⟨gt, ot, none⟩) LN ct)) := qh fun W h => ⟨(B0.out.kept (K2.out.trans' h)).c6, (HBX.out.kept (K1.out.trans' (K2.out.trans' h))).c 12 rfl⟩
 go_wp2_with fail
 go_loopg [7] N (fun gh v7 wr => ∃ j : Nat, j + gh = N ∧ v7 = .int .i64 (j : Int) ∧ Kept w2 wr)
 case atStart => exact ⟨0, by omega, rfl, Below.refl _ _⟩
 case round =>
  obtain ⟨j, hjg, rfl, hk⟩ := hrel
  have HK := qh hk
  clear hk
  cases gk with
  | zero =>
   obtain rfl : j = N := by omega
   go_wp2_with fail
   exact bodyPost_ret (v := .tuple #[.int .i64 0, .int .i64 271]) (by simp [results, results63, go_sem]) rfl ⟨0, 271, rfl, fun h => absurd h (by decide), K1.out.trans' (K2.out.trans' HK.out)⟩
  | succ gj =>
   obtain ⟨k, hk⟩ : ∃ k, LP[j]? = some k := ⟨_, List.getElem?_eq_getElem (by have := HNP.out; omega)⟩
   have hjN : (j : Int) < (N : Int) := by omega
   have hj0 : (0 : Int) ≤ (j : Int) := by omega
   have hkm : k ∈ LP := List.mem_of_getElem? hk
   have hlt := HLT.out k hkm
   obtain ⟨g, off, rfl, hcx⟩ : ∃ g off, A = some ⟨g, off, none⟩ ∧ ∀ W, Kept w2 W → W.cell? ⟨g, off + j, none⟩ = some (.int .i64 (k : Int)) := by
    rcases HX.out.2 with ⟨-, h0⟩ | ⟨g, off, cap, e, -, hgl, -, -, hx, -⟩
    ·omega
    ·injection e with e1
     exact ⟨g, off, e1, fun W hW => (hW.cells _ _ hgl).trans (hx j _ (by simp [qa1, hk]))⟩
   obtain ⟨m, hm⟩ : ∃ m, L[k]? = some m := ⟨_, List.getElem?_eq_getElem (by have := HN.out; omega)⟩
   have hmo := HGD.out k m hm
   have HCM := qh (fun W hk i y hy => HCL.out W hk k m i y hm hy)
   have ewj : IntKind.i64.wrap ((j : Int) + 1) = ((j + 1 : Nat) : Int) := by have := HLN.out; rw [IntWalk.i64_in _ (by omega)]; omega
   obtain ⟨⟨⟨m0, m1, m2⟩, ⟨m3, m4, m5⟩, m6⟩, md, mt, mp, y0, y1, y2, y3⟩ := m
   change sqB ⟨⟨m0, m1, m2⟩, ⟨m3, m4, m5⟩, m6⟩ = true at hmo
   have HOLM := qh (HOL.out ⟨⟨m0, m1, m2⟩, ⟨m3, m4, m5⟩, m6⟩ hmo)
   simp only at HOLM
   generalize qcg ⟨⟨m0, m1, m2⟩, ⟨m3, m4, m5⟩, m6⟩ GG = H1 at *
   obtain ⟨hb, he, hH, hR⟩ := qeA H1
   rw [hH] at HOLM
   have hkI : (k : Int) < (LN : Int) := by omega
   have hk0 : (0 : Int) ≤ (k : Int) := by omega
   have SM : Hid (∀ W, Kept w2 W → W.cell? ⟨gt, ot + k * 14, none⟩ = some (.bool m0) ∧ W.cell? ⟨gt, ot + k * 14 + 1, none⟩ = some (.string m1) ∧ W.cell? ⟨gt, ot + k * 14 + 2, none⟩ = some (.int .i64 m2) ∧ W.cell? ⟨gt, ot + k * 14 + 3, none⟩ = some (.bool m3) ∧ W.cell? ⟨gt, ot + k * 14 + 4, none⟩ = some (.string m4) ∧ W.cell? ⟨gt, ot + k * 14 + 5, none⟩ = some (.int .i64 m5) ∧ W.cell? ⟨gt, ot + k * 14 + 6, none⟩ = some (.int .i64 m6)) := qh fun W h => by
    have f := fun i y hy => HCM.out W (K1.out.trans' (K2.out.trans' h)) i y hy
    exact ⟨f 0 _ rfl, f 1 _ rfl, f 2 _ rfl, f 3 _ rfl, f 4 _ rfl, f 5 _ rfl, f 6 _ rfl⟩
   have HCX := qh hcx
   have HLK := qh (show k < L.length by have := HN.out; omega)
   clear hm hmo HCM hH hR hk hkm hcx
   go_upto_region 5 with fail
   refine wp_region_quiet (C := (KB w2)) (by kernel_rfl) (by kernel_rfl) ?_ ?_
   ·exact ⟨HK.out.trans' (Below.refl _ wr).drew⟩
   dsimp only [List.take]
   refine wQ (some 19) ?_ fun wr hw => (by (obtain ⟨⟨c0, c1, c2, c3, c4, c5⟩, p1⟩ := SK.out _ hw.k; obtain ⟨n0, n1, n2, n3, n4, n5, n6⟩ := SM.out _ hw.k; have cx := HCX.out _ hw.k); go_simp; (try with_reducible rfl))
   refine wQ (some 20) ?_ fun wr hw => (by (obtain ⟨⟨c0, c1, c2, c3, c4, c5⟩, p1⟩ := SK.out _ hw.k; obtain ⟨n0, n1, n2, n3, n4, n5, n6⟩ := SM.out _ hw.k; have cx := HCX.out _ hw.k); go_simp; (try with_reducible rfl))
   refine wQ (some 21) ?_ fun wr hw => (by (obtain ⟨⟨c0, c1, c2, c3, c4, c5⟩, p1⟩ := SK.out _ hw.k; obtain ⟨n0, n1, n2, n3, n4, n5, n6⟩ := SM.out _ hw.k; have cx := HCX.out _ hw.k); go_simp; (try with_reducible rfl))
   refine wQ (some 22) ?_ fun wr hw => (by (obtain ⟨⟨c0, c1, c2, c3, c4, c5⟩, p1⟩ := SK.out _ hw.k; obtain ⟨n0, n1, n2, n3, n4, n5, n6⟩ := SM.out _ hw.k; have cx := HCX.out _ hw.k); go_simp; (try with_reducible rfl))
   refine wQ (some 23) ?_ fun wr hw => (by (obtain ⟨⟨c0, c1, c2, c3, c4, c5⟩, p1⟩ := SK.out _ hw.k; obtain ⟨n0, n1, n2, n3, n4, n5, n6⟩ := SM.out _ hw.k; have cx := HCX.out _ hw.k); go_simp; (try with_reducible rfl))
   refine wQ (some 24) ?_ fun wr hw => (by (obtain ⟨⟨c0, c1, c2, c3, c4, c5⟩, p1⟩ := SK.out _ hw.k; obtain ⟨n0, n1, n2, n3, n4, n5, n6⟩ := SM.out _ hw.k; have cx := HCX.out _ hw.k); go_simp; (try with_reducible rfl))
   refine wQ (some 25) ?_ fun wr hw => (by (obtain ⟨⟨c0, c1, c2, c3, c4, c5⟩, p1⟩ := SK.out _ hw.k; obtain ⟨n0, n1, n2, n3, n4, n5, n6⟩ := SM.out _ hw.k; have cx := HCX.out _ hw.k); go_simp; (try with_reducible rfl))
   refine wQ (some 26) ?_ fun wr hw => (by (obtain ⟨⟨c0, c1, c2, c3, c4, c5⟩, p1⟩ := SK.out _ hw.k; obtain ⟨n0, n1, n2, n3, n4, n5, n6⟩ := SM.out _ hw.k; have cx := HCX.out _ hw.k); go_simp; (try with_reducible rfl))
   refine wQ (some 27) ?_ fun wr hw => (by (obtain ⟨⟨c0, c1, c2, c3, c4, c5⟩, p1⟩ := SK.out _ hw.k; obtain ⟨n0, n1, n2, n3, n4, n5, n6⟩ := SM.out _ hw.k; have cx := HCX.out _ hw.k); go_simp; (try with_reducible rfl))
   refine wQ (some 28) ?_ fun wr hw => (by (obtain ⟨⟨c0, c1, c2, c3, c4, c5⟩, p1⟩ := SK.out _ hw.k; obtain ⟨n0, n1, n2, n3, n4, n5, n6⟩ := SM.out _ hw.k; have cx := HCX.out _ hw.k); go_simp; (try with_reducible rfl))
   refine wQ (some 29) ?_ fun wr hw => (by (obtain ⟨⟨c0, c1, c2, c3, c4, c5⟩, p1⟩ := SK.out _ hw.k; obtain ⟨n0, n1, n2, n3, n4, n5, n6⟩ := SM.out _ hw.k; have cx := HCX.out _ hw.k); go_simp; (try with_reducible rfl))
   refine wQ (some 30) ?_ fun wr hw => (by (obtain ⟨⟨c0, c1, c2, c3, c4, c5⟩, p1⟩ := SK.out _ hw.k; obtain ⟨n0, n1, n2, n3, n4, n5, n6⟩ := SM.out _ hw.k; have cx := HCX.out _ hw.k); go_simp; (try with_reducible rfl))
   refine qbK (v := ?_) (f := ?_) (args := ?_) (some 31) rfl (by kernel_rfl) (fun wr hw => ?_) (fun wr hw => ?_) ?_
   rotate_left 3
   ·(obtain ⟨⟨c0, c1, c2, c3, c4, c5⟩, p1⟩ := SK.out _ hw.k; obtain ⟨n0, n1, n2, n3, n4, n5, n6⟩ := SM.out _ hw.k; have cx := HCX.out _ hw.k); go_simp; refine ⟨?_, ?_⟩ <;> with_reducible rfl
   ·refine (HOLM.out wr).mono ?_; rintro e w' ⟨rfl, hk⟩; refine ⟨?_, hw.on hk⟩; with_reducible rfl
   try simp only [Act.put, tdy]
   refine wQ (some 18) ?_ fun wr hw => (by (obtain ⟨⟨c0, c1, c2, c3, c4, c5⟩, p1⟩ := SK.out _ hw.k; obtain ⟨n0, n1, n2, n3, n4, n5, n6⟩ := SM.out _ hw.k; have cx := HCX.out _ hw.k); go_simp; (try with_reducible rfl))
   refine wQ (some 32) ?_ fun wr hw => (by (obtain ⟨⟨c0, c1, c2, c3, c4, c5⟩, p1⟩ := SK.out _ hw.k; obtain ⟨n0, n1, n2, n3, n4, n5, n6⟩ := SM.out _ hw.k; have cx := HCX.out _ hw.k); go_simp; (try with_reducible rfl))
   refine wQ (some 33) ?_ fun wr hw => (by (obtain ⟨⟨c0, c1, c2, c3, c4, c5⟩, p1⟩ := SK.out _ hw.k; obtain ⟨n0, n1, n2, n3, n4, n5, n6⟩ := SM.out _ hw.k; have cx := HCX.out _ hw.k); go_simp; (try with_reducible rfl))
   refine wQ (some 8) ?_ fun wr hw => (by (obtain ⟨⟨c0, c1, c2, c3, c4, c5⟩, p1⟩ := SK.out _ hw.k; obtain ⟨n0, n1, n2, n3, n4, n5, n6⟩ := SM.out _ hw.k; have cx := HCX.out _ hw.k); go_simp; (try with_reducible rfl))
   refine wQ (some 9) ?_ fun wr hw => (by (obtain ⟨⟨c0, c1, c2, c3, c4, c5⟩, p1⟩ := SK.out _ hw.k; obtain ⟨n0, n1, n2, n3, n4, n5, n6⟩ := SM.out _ hw.k; have cx := HCX.out _ hw.k); go_simp; (try with_reducible rfl))
   refine wpQuiet_nil ?_
   intro wq hq
   have KQ := qh hq.k
   have cx := HCX.out _ KQ.out
   clear hq HOLM SM HK
   by_cases hhe : he = 0
   ·subst hhe
    cases hb with
    | true =>
     go_wp2_with fail
     exact bodyPost_ret (v := .tuple #[.int .i64 (k : Int), .int .i64 0]) (by simp [results, results63, go_sem]) rfl ⟨k, 0, rfl, fun _ => HLK.out, K1.out.trans' (K2.out.trans' KQ.out)⟩
    | false =>
     go_wp2_with fail
     go_roundg gj
     case measure => omega
     case rel => exact ⟨j + 1, by omega, by go_num, KQ.out⟩
   ·have hne : (he != 0) = true := by simpa using hhe
    have HHE := qh hhe
    clear hhe
    go_wp2_with fail
    exact bodyPost_ret (v := .tuple #[.int .i64 0, .int .i64 he]) (by simp [results, results63, go_sem]) rfl ⟨0, he, rfl, fun h => absurd h HHE.out, K1.out.trans' (K2.out.trans' KQ.out)⟩
def qit (w : World) (base p : Nat) (v : Value) (u : RuD) (L : List NdR) (en : Ending) (w' : World) : Prop := ∃ (b : Bool) (e : Int) (L' : List NdR), en = .returned (.tuple #[.bool b, .int .i64 e]) ∧ L.length ≤ L'.length ∧ qf9 w base p v u L' w'
theorem qf9.kept {w w1 w2 : World} {base p : Nat} {v : Value} {u : RuD} {L' : List NdR} (hk : Kept w w1) (h : qf9 w1 base p v u L' w2) : qf9 w base p v u L' w2 := by
 obtain ⟨h0, v', h1, h2, h3⟩ := h
 exact ⟨h0, v', h1, (Far.qcE hk).trans h2 (fun i _ hi => hi), h3.imp id (fun h i hi => Nat.le_trans hk.size (h i hi))⟩
theorem qln {w : World} {base p : Nat} {v : Value} {u : RuD} {L : List NdR} (g : GsD) (hM : RfM w base p v u L) (hS : qbm L) (hu : u.ok) (h1 : g.re.ok) (h2 : g.im.ok) :
  Calls prog 30 #[.pointer (some ⟨p, 0, none⟩), .agg #[.bool g.re.neg, .string g.re.n, .int .i64 g.re.e, .bool g.im.neg, .string g.im.n, .int .i64 g.im.e]] w (qit w base p v u L) := by
 have MY := qh (fun W => qhC g.re g.im W h1 h2)
 have FD := qh (fun W (hk : Kept w W) (hg : gsB g = true) => ql8 g (hM.kept hk) hS hg)
 have PA := qh (fun W (hk : Kept w W) k (h : k < L.length) => qhA (hM.kept hk) hS hu h)
 have PX : Hid (∀ (e : Int) w', Kept w w' → qit w base p v u L (.returned (.tuple #[.bool false, .int .i64 e])) w') := qh fun e w' hk => ⟨false, e, L, rfl, Nat.le_refl _, hS, v, hM.kept hk, Far.qcE hk, .inl rfl⟩
 have PP : Hid (∀ (b : Bool) w1 w', Kept w w1 → qfc w1 base p v u L (.returned (.bool b)) w' → qit w base p v u L (.returned (.tuple #[.bool b, .int .i64 0])) w') := qh fun b w1 w' hk hp => by
  obtain ⟨b', L', v', he, hg, hl, h3, h4, h5⟩ := hp
  injection he with he
  injection he with he
  subst he
  exact ⟨b, 0, L', rfl, by split at hl <;> omega, qf9.kept hk ⟨hg, v', h3, h4, h5⟩⟩
 obtain ⟨gb, hgb⟩ : ∃ gb, gb = gsB g := ⟨_, rfl⟩
 rw [show (qad g.re && qad g.im) = gsB g from rfl] at MY
 rw [← hgb] at MY FD
 obtain ⟨⟨r0, r1, r2⟩, ⟨i0, i1, i2⟩⟩ := g
 simp only at MY FD ⊢
 generalize qit w base p v u L = RP at *
 clear hM hS hu h1 h2 hgb
 go_enter func30, ntmps30
 go_upto_region 1 with fail
 obtain ⟨b, w1, hw, hb, B0, K1, HB⟩ := qa4 w (LC1 r0 r1 r2 i0 i1 i2) 28
 rw [← hw, ← hb]; clear hw hb
 obtain ⟨c0, c1, c2, c3, c4, c5⟩ := B0.out.c6
 go_wp2_with fail
 refine (MY.out _).mono ?_
 rintro en w2 ⟨rfl, hk2⟩
 have K2 := qh (K1.out.trans' hk2)
 obtain ⟨d0, d1, d2, d3, d4, d5⟩ := (B0.out.kept hk2).c6
 clear hk2 MY c0 c1 c2 c3 c4 c5
 cases gb with
 | false =>
  have HP := PX.out 2 _ K2.out
  go_wp2_with fail
  exact HP
 | true =>
  go_wp2_with fail
  refine (FD.out _ K2.out (by simp)).mono ?_
  rintro en w3 ⟨k, e, rfl, hke, hk3⟩
  have K3 := qh (K2.out.trans' hk3)
  have HKE := qh hke
  clear hk3 hke FD d0 d1 d2 d3 d4 d5
  by_cases he : e = 0
  ·subst he
   have PAx := qh (PA.out _ K3.out k (HKE.out rfl))
   clear PA
   go_wp2_with fail
   refine PAx.out.mono ?_
   rintro en w4 hp4
   have hp := hp4
   obtain ⟨b4, L4, v4, rfl, -⟩ := hp4
   have HP := PP.out b4 _ _ K3.out hp
   clear hp
   go_wp2_with fail
   exact HP
  ·have hne : (e != 0) = true := by simpa using he
   have HP := PX.out e _ K3.out
   clear he
   go_wp2_with fail
   exact HP
end
section
attribute [local go_sem] qah qae
def qm0 (w : World) (u : RuD) (s : SqD) (en : Ending) (w' : World) : Prop :=
 Kept w w' ∧ if sqB s = true ∧ (qaj s).2 = 0 then ∃ p v L, en = .returned (.tuple #[.pointer (some ⟨p, 0, none⟩), .int .i64 0]) ∧ RfM w' w.heap.size p v u L ∧ qbm L
 else en = .returned (.tuple #[.pointer none, .int .i64 (qgm s).2])
theorem qjV {s : SqD} {t : Nat} (hs : sqB s = true) (ht : t ≤ 2) : qbm [⟨s, 0, t, false, 0, 0, 0, 0⟩] := by
 have e : stR [⟨s, 0, t, false, 0, 0, 0, 0⟩] = ⟨[⟨s, t, 0, none⟩], 1⟩ := by simp [stR, NdR.toD]
 have r : Rel [⟨s, qaD ⟨0, ⟨⟨false, ⟨#[]⟩, 0⟩, ⟨false, ⟨#[]⟩, 0⟩⟩, ⟨false, ⟨#[]⟩, 0⟩, 0, 0⟩ s, 0, none⟩] [⟨s, t, 0, none⟩] := ⟨rfl, fun j a ha => by
  cases j with
  | zero => cases ha; exact ⟨t, ht, rfl⟩
  | succ j => simp at ha⟩
 exact ⟨by rw [e]; exact GoodS.rel r (qec hs), by rw [e]; exact Whole.rel r (qdN _ s)⟩
set_option maxRecDepth 100000 in
set_option maxHeartbeats 6400000 in
theorem qnw {w : World} {u : RuD} (s : SqD) (hs : s.ok) (hu : u.ok) :
  Calls prog 25 #[.agg #[.bool s.left.neg, .string s.left.n, .int .i64 s.left.e, .bool s.low.neg, .string s.low.n, .int .i64 s.low.e, .int .i64 s.e], .agg (ruL u).toArray] w (qm0 w u s) := by
 have RT := qh (fun W => qjX s W ⟨hs.left, hs.low⟩)
 have CV := qh (fun (h : sqB s = true) W => qgI s W h)
 have PX0 : Hid (sqB s = false → ∀ w', Kept w w' → qm0 w u s (.returned (.tuple #[.pointer none, .int .i64 240])) w') := qh fun h w' hk => by
  refine ⟨hk, ?_⟩
  rw [if_neg (by rw [h]; simp)]
  unfold qgm; rw [h]; rfl
 have PX1 : Hid (sqB s = true → (qaj s).2 ≠ 0 → ∀ w', Kept w w' → qm0 w u s (.returned (.tuple #[.pointer none, .int .i64 (qaj s).2])) w') := qh fun h h2 w' hk => by
  refine ⟨hk, ?_⟩
  rw [if_neg (fun h3 => h2 h3.2)]
  unfold qgm; rw [if_pos h]
 have PX2 : Hid (sqB s = true → (qaj s).2 = 0 → ∀ w' p v t, t ≤ 2 → Kept w w' → RfM w' w.heap.size p v u [⟨s, 0, t, false, 0, 0, 0, 0⟩] → qm0 w u s (.returned (.tuple #[.pointer (some ⟨p, 0, none⟩), .int .i64 0])) w') := qh fun h h2 w' p v t ht hk hM => by
  refine ⟨hk, ?_⟩
  rw [if_pos ⟨h, h2⟩]
  exact ⟨p, v, _, rfl, hM, qjV h ht⟩
 have HU := qh hu
 generalize qm0 w u s = RP at *
 generalize (qaj s).2 = ce at *
 generalize sqB s = sb at *
 obtain ⟨RV, hRV⟩ : ∃ RV : List Value, RV = ruL u := ⟨_, rfl⟩
 have HRL := qh (show RV.length = 12 by rw [hRV]; rfl)
 have HRV := qh hRV
 have HRF := qh (show RV.toArray = #[.int .i64 u.k, .bool u.c.re.neg, .string u.c.re.n, .int .i64 u.c.re.e, .bool u.c.im.neg, .string u.c.im.n, .int .i64 u.c.im.e, .bool u.r.neg, .string u.r.n, .int .i64 u.r.e, .float .f64 u.x, .float .f64 u.y] by rw [hRV])
 rw [← hRV]
 clear hs hu hRV
 obtain ⟨⟨a0, a1, a2⟩, ⟨a3, a4, a5⟩, a6⟩ := s
 simp only at RT CV ⊢
 go_enter func25, ntmps25
 go_upto_region 1 with fail
 have B0 := Bx.new w (LC3 a0 a1 a2 a3 a4 a5 a6) 26 w.heap.size rfl
 have K1 := Kept.new (Below.refl _ w) (.cells (LC3 a0 a1 a2 a3 a4 a5 a6).toArray 26)
 have B1 := Bx.new (w.alloc (.cells (LC3 a0 a1 a2 a3 a4 a5 a6).toArray 26)) RV 31 (w.heap.size + 1) (by simp)
 replace B0 := qh (B0.kept (Kept.new (Below.refl _ _) (.cells RV.toArray 31)))
 replace B1 := qh B1
 replace K1 := qh (Kept.new K1 (.cells RV.toArray 31))
 obtain ⟨b, hb⟩ : ∃ b, b = w.heap.size := ⟨_, rfl⟩
 rw [← hb] at B0 B1 ⊢
 have HB := qh (show w.heap.size ≤ b by omega)
 clear hb
 generalize (w.alloc _).alloc _ = w1 at *
 obtain ⟨c0, c1, c2, c3, c4, c5, c6⟩ := B0.out.c7
 go_wp2_with fail
 refine (RT.out _).mono ?_
 rintro en w2 ⟨rfl, hk2⟩
 have K2 := qh (K1.out.trans' hk2)
 replace B0 := qh (B0.out.kept hk2)
 replace B1 := qh (B1.out.kept hk2)
 clear hk2 RT K1 c0 c1 c2 c3 c4 c5 c6
 cases sb with
 | false =>
  have HP := PX0.out (by simp) _ K2.out
  go_wp2_with fail
  exact HP
 | true =>
  go_upto_region 3 with fail
  refine wp_region_list ?_
  refine wpList_plain rfl fun K hK => qai (vs := (LC3 a0 a1 a2 a3 a4 a5 a6)) (b := b) (n := 7) _ rfl rfl B0.out rfl underlying26 rfl (by kernel_rfl) (hK _ _ ?_)
  clear hK K
  refine wpList_plain rfl fun K hK => ?_
  go_step
  (with_reducible refine (CV.out (by simp) _).mono ?_)
  rintro en w3 ⟨c1, c2, c3, h1, h2, h3, rfl, hk3⟩
  refine hK _ _ ?_
  clear hK K CV
  refine wpList_plain rfl fun K hK => ?_
  go_step
  refine hK _ _ ?_
  clear hK K
  refine wpList_plain rfl fun K hK => ?_
  go_step
  refine hK _ _ ?_
  clear hK K
  refine wpList_plain rfl fun K hK => ?_
  go_step
  refine hK _ _ ?_
  clear hK K
  refine wpList_plain rfl fun K hK => ?_
  go_step
  refine hK _ _ ?_
  clear hK K
  have K3 := qh (Kept.new (K2.out.trans' hk3) (.cells #[.complex .f64 0 0, .float .f64 0] 85))
  have BB := qh (Bx.new w3 [.complex .f64 0 0, .float .f64 0] 85 w3.heap.size rfl)
  have hk4 := Kept.new hk3 (.cells #[.complex .f64 0 0, .float .f64 0] 85)
  have hlt := B1.out.lt
  replace B0 := qh (B0.out.kept hk4)
  replace B1 := qh (B1.out.kept hk4)
  obtain ⟨d, hd⟩ : ∃ d, d = w3.heap.size := ⟨_, rfl⟩
  have HBD := qh (show b + 1 < d by have := hk3.size; omega)
  rw [← hd] at BB ⊢
  clear hd hk3 hk4 hlt K2
  generalize World.alloc w3 _ = w4 at *
  refine wpList_plain rfl fun K hK => qaa (vs := [.complex .f64 c1 c2, .float .f64 c3]) (b := d) (n := 2) _ _ rfl rfl rfl BB.out rfl rfl (by kernel_rfl) rfl (hK _ _ ?_)
  clear hK K
  replace BB := qh (BB.out.row [.complex .f64 c1 c2, .float .f64 c3])
  replace B0 := qh (B0.out.off (g := d) (by have := HBD.out; omega) [.complex .f64 c1 c2, .float .f64 c3])
  replace B1 := qh (B1.out.off (g := d) (by have := HBD.out; omega) [.complex .f64 c1 c2, .float .f64 c3])
  replace K3 := qh (Kept.row K3.out (b := d) (by have := HBD.out; have := HB.out; omega) [.complex .f64 c1 c2, .float .f64 c3])
  generalize World.setRow w4 _ _ = w5 at *
  by_cases hce : ce = 0
  ·subst hce
   have PX := qh (PX2.out (by simp) (by simp))
   have TD := qh (fun W => qjn u HU.out c1 c2 c3 h1 h2 h3 W)
   have HTT := qh (qh9 u c1 c2 c3)
   obtain ⟨tt, htt⟩ : ∃ tt, tt = qfK u c1 c2 c3 := ⟨_, rfl⟩
   rw [← htt] at TD HTT
   rw [← HRV.out] at TD
   clear htt PX0 PX1 PX2
   go_upto_region 6 with fail
   have SK : Hid (∀ W, Kept w5 W → W.rangeAt b 0 (LC3 a0 a1 a2 a3 a4 a5 a6) ∧ W.rangeAt (b + 1) 0 RV ∧ W.rangeAt d 0 [.complex .f64 c1 c2, .float .f64 c3]) := qh fun W h => ⟨(B0.out.kept h).range (fun j v hv => by rw [Nat.zero_add]; exact hv), (B1.out.kept h).range (fun j v hv => by rw [Nat.zero_add]; exact hv), (BB.out.kept h).range (fun j v hv => by rw [Nat.zero_add]; exact hv)⟩
   have hS0 := SK.out _ (Below.refl _ w5).drew
   refine qab (fun W => W.rangeAt b 0 (LC3 a0 a1 a2 a3 a4 a5 a6) ∧ W.rangeAt (b + 1) 0 RV ∧ W.rangeAt d 0 [.complex .f64 c1 c2, .float .f64 c3]) [10] (by kernel_rfl) ?_ (fun hHeld => ?_)
   ·(first | assumption | exact SK.out _ (K15.out.trans' (Kept.new (Below.refl _ _) _)) | exact SK.out _ ((K15.out.trans' (Kept.new (Below.refl _ _) _)).trans' (Kept.new (Below.refl _ _) _)))
   refine yS (v := .agg RV.toArray) 0 19 ?_ ?_
   ·intro w hSw; (try dsimp only at hSw); exact qba (vs := RV) _ rfl rfl hSw.2.1 underlying31 rfl (by rw [HRL.out]; kernel_rfl)
   try simp only [Act.put, tdy]
   refine yS (v := .agg #[.bool a0, .string a1, .int .i64 a2, .bool a3, .string a4, .int .i64 a5, .int .i64 a6]) 1 20 ?_ ?_
   ·intro w hSw; (try dsimp only at hSw); exact qba (vs := (LC3 a0 a1 a2 a3 a4 a5 a6)) _ rfl rfl hSw.1 underlying26 rfl (by kernel_rfl)
   try simp only [Act.put, tdy]
   refine yS (v := .agg RV.toArray) 2 21 ?_ ?_
   ·intro w hSw; (try dsimp only at hSw); exact qba (vs := RV) _ rfl rfl hSw.2.1 underlying31 rfl (by rw [HRL.out]; kernel_rfl)
   try simp only [Act.put, tdy]
   refine yS (v := .agg #[.complex .f64 c1 c2, .float .f64 c3]) 3 22 ?_ ?_
   ·intro w hSw; (try dsimp only at hSw); exact qba (vs := [.complex .f64 c1 c2, .float .f64 c3]) _ rfl rfl hSw.2.2 underlying85 rfl (by kernel_rfl)
   try simp only [Act.put, tdy]
   refine oS 4 fun K hK => ?_
   go_simp
   (refine (TD.out _).mono ?_; rintro en w15 ⟨rfl, hk15⟩; have K15 : Hid (Kept w5 w15) := qh ((Below.refl _ w5).drew.trans (hk15.mono (Nat.le_refl _))); have hS15 := SK.out w15 K15.out)
   refine hK.out _ _ ?_ (fun hHeld => ?_)
   ·(first | assumption | exact SK.out _ (K15.out.trans' (Kept.new (Below.refl _ _) _)) | exact SK.out _ ((K15.out.trans' (Kept.new (Below.refl _ _) _)).trans' (Kept.new (Below.refl _ _) _)))
   clear hK K
   try simp only [Act.put, tdy]
   refine wS 5 24 ?_
   refine oS 6 fun K hK => ?_
   go_simp
   refine hK.out _ _ ?_ (fun hHeld => ?_)
   ·(first | assumption | exact SK.out _ (K15.out.trans' (Kept.new (Below.refl _ _) _)) | exact SK.out _ ((K15.out.trans' (Kept.new (Below.refl _ _) _)).trans' (Kept.new (Below.refl _ _) _)))
   clear hK K
   try simp only [Act.put, tdy]
   refine yS (v := .agg (RV ++ [Value.slice (some ⟨w15.heap.size, 0, none⟩) 1 1]).toArray) 7 26 ?_ ?_
   ·intro w hSw; exact qfH (RV ++ [Value.slice (some ⟨w15.heap.size, 0, none⟩) 1 1]) rfl (by rw [HRV.out]; kernel_rfl)
   try simp only [Act.put, tdy]
   refine oS 8 fun K hK => ?_
   go_simp
   refine hK.out _ _ ?_ (fun hHeld => ?_)
   ·(first | assumption | exact SK.out _ (K15.out.trans' (Kept.new (Below.refl _ _) _)) | exact SK.out _ ((K15.out.trans' (Kept.new (Below.refl _ _) _)).trans' (Kept.new (Below.refl _ _) _)))
   clear hK K
   try simp only [Act.put, tdy]
   refine oS 9 fun K hK => ?_
   go_simp
   refine hK.out _ _ ?_ (fun hHeld => ?_)
   ·(first | assumption | exact SK.out _ (K15.out.trans' (Kept.new (Below.refl _ _) _)) | exact SK.out _ ((K15.out.trans' (Kept.new (Below.refl _ _) _)).trans' (Kept.new (Below.refl _ _) _)))
   clear hK K
   try simp only [Act.put, tdy]
   refine eS 10 fun K hK => ?_
   go_simp
   refine hK.out _ _ ?_
   clear hK K
   try simp only [Act.put, tdy]
   refine dS ?_ _
   have hK5 : Kept w w15 := K3.out.trans' K15.out
   have hz6 : w.heap.size ≤ w15.heap.size := hK5.size
   have HO := Own.new w15 #[.bool a0, .string a1, .int .i64 a2, .bool a3, .string a4, .int .i64 a5, .int .i64 a6, .int .i64 0, .int .u8 (tt : Int), .bool false, .int .i64 0, .int .i64 0, .int .i64 0, .int .i64 0] 104 (0, 0) 1 14 (qbT [⟨⟨⟨a0, a1, a2⟩, ⟨a3, a4, a5⟩, a6⟩, 0, tt, false, 0, 0, 0, 0⟩]) w.heap.size w15.heap.size rfl hz6 (by unfold maxLen; omega) rfl rfl (.inr rfl)
   have hK6 := Kept.new hK5 (.cells #[.bool a0, .string a1, .int .i64 a2, .bool a3, .string a4, .int .i64 a5, .int .i64 a6, .int .i64 0, .int .u8 (tt : Int), .bool false, .int .i64 0, .int .i64 0, .int .i64 0, .int .i64 0] 104)
   generalize hW6 : w15.alloc (.cells #[.bool a0, .string a1, .int .i64 a2, .bool a3, .string a4, .int .i64 a5, .int .i64 a6, .int .i64 0, .int .u8 (tt : Int), .bool false, .int .i64 0, .int .i64 0, .int .i64 0, .int .i64 0] 104) = w6 at *
   have hs6 : w6.heap.size = w15.heap.size + 1 := by rw [← hW6]; simp
   clear hW6
   have hB7 := Bx.new w6 (RV ++ [Value.slice (some ⟨w15.heap.size, 0, none⟩) 1 1]) 80 (w15.heap.size + 1) (by omega)
   have HP := PX.out _ (w15.heap.size + 1) (.slice (some ⟨w15.heap.size, 0, none⟩) 1 1) tt HTT.out (Kept.new hK6 (.cells (RV ++ [Value.slice (some ⟨w15.heap.size, 0, none⟩) 1 1]).toArray 80)) ⟨by rw [← HRV.out]; exact hB7, HO.alloc _, by omega, fun i hi => by cases hi; show w15.heap.size ≠ w15.heap.size + 1; omega⟩
   clear HO hB7
   go_wp2_with fail
   exact HP
  ·have HP := PX1.out (by simp) hce _ K3.out
   have hne : (ce != 0) = true := by simpa using hce
   clear PX0 PX2 hce
   go_wp2_with fail
   exact HP
end
structure qdn where
 d : Int
 a : Int
 b : Int
 n : Int
 g : GsD
 t : ByteArray
def stV (s : qdn) : List Value := [.int .i64 s.d, .int .i64 s.a, .int .i64 s.b, .int .i64 s.n, .bool s.g.re.neg, .string s.g.re.n, .int .i64 s.g.re.e, .bool s.g.im.neg, .string s.g.im.n, .int .i64 s.g.im.e, .string s.t]
def qcm : List qdn → List Value
 | [] => []
 | s :: l => stV s ++ qcm l
theorem qbU (s : qdn) : (stV s).length = 11 := rfl
theorem qbY : ∀ l : List qdn, (qcm l).length = l.length * 11
 | [] => rfl
 | n :: l => by simp only [qcm, List.length_append, qbU, qbY l, List.length_cons]; omega
theorem qfv : ∀ (l : List qdn) (k : Nat) (n : qdn) (i : Nat), l[k]? = some n → i < 11 → (qcm l)[k * 11 + i]? = (stV n)[i]?
 | [], k, n, i, h, _ => by simp at h
 | x :: l, 0, n, i, h, hi => by
  have : x = n := by simpa using h
  subst this
  simp only [qcm, Nat.zero_mul, Nat.zero_add]
  rw [List.getElem?_append_left (by rw [qbU]; exact hi)]
 | x :: l, k + 1, n, i, h, hi => by
  have e : (k + 1) * 11 + i = 11 + (k * 11 + i) := by omega
  simp only [qcm]
  rw [e, List.getElem?_append_right (by rw [qbU]; omega), qbU, Nat.add_sub_cancel_left]
  exact qfv l k n i (by simpa using h) hi
theorem qcY (n : qdn) : qcm [n] = stV n := by simp [qcm]
end Go.Proofs.YtfdnledkcongaaaGreatDoor
