/- refine's order over the leaves of a tree that is one leaf, as the runner is told of it. -/
import Derived.Test.YtneakieigiafpaaGreatDoorExN
import Derived.Test.YtneakieigiafpaaGreatDoorMem
import Derived.Test.YtneakieigiafpaaGreatDoorRows
import Derived.BigQuiet
import Derived.IntWalk
import Derived.Deep.QuietTactic
import Derived.Deep.LoopGhost
import Derived.Deep.DeepCutAuto
import Derived.RangeFuncNested
import Derived.RangeFuncBound
import Derived.TacticsInMore
import Derived.LoopNIn
import Derived.LoopIn
namespace Go.Proofs.YtneakieigiafpaaGreatDoor
open Go.RowKit Go.Ex
attribute [local go_sem] Oper.semAt_some

/-- A loop, round by round. -/
def LoopWpF (F : Fence) (n : Nat) (P : Program) (c : Code) (Q : Exit → Act → World → Prop) (a : Act) (w : World) : Prop := ∀ (b : Frame) (k : List Item) (cs : List Frame), b.roundOf = F.round → F.fn b.fn → F.room (cs.length + 1 + n) →
  ∃ e a' w', Q e a' w' ∧ ArrivesIn (Machine.fenced P F) P (lone (b.atR a (.code c :: .inLoop c :: k)) cs w) b k cs e a' w'
section
variable {F : Fence} {n : Nat} {P : Program} {c : Code} {Q : Exit → Act → World → Prop} {a : Act} {w : World}
theorem wpF_of_loop (h : LoopWpF F n P c Q a w) : (Code.loop c).wpIn F n P Q a w := fun b k cs hro hb hr => let ⟨e, a', w', hq, harr⟩ := h b k cs hro hb hr; ⟨e, a', w', hq, .of_steps (.one (fenced_calm hb hr rfl) stepR_loop) harr⟩
theorem loopF_round (h : c.wpIn F n P (Exit.then (LoopWpF F n P c Q) Q) a w) : LoopWpF F n P c Q a w := by
  intro b k cs hro hb hr
  obtain ⟨e, a₁, w₁, hq, harr⟩ := h b (.inLoop c :: k) cs hro hb hr
  cases e with
  | normal =>
    obtain ⟨e₂, a₂, w₂, hq₂, harr₂⟩ := hq b k cs hro hb hr
    exact ⟨e₂, a₂, w₂, hq₂, .of_steps (StepsIn.trans harr (.one (fenced_calm hb hr rfl) stepR_inLoop)) harr₂⟩
  | exit id => exact ⟨_, a₁, w₁, hq, .pass (x := .inLoop c) rfl (fun _ _ => .inl (by simp)) harr⟩
  | goto l => exact ⟨_, a₁, w₁, hq, .pass (x := .inLoop c) rfl (fun _ _ => .inl (by simp)) harr⟩
  | ret => exact ⟨_, a₁, w₁, hq, .pass (x := .inLoop c) rfl (fun _ _ => .inl (by simp)) harr⟩
  | panic ch => exact ⟨_, a₁, w₁, hq, .pass (x := .inLoop c) rfl (fun _ _ => .inl (by simp)) harr⟩
  | outgrown => exact ⟨_, a₁, w₁, hq, .pass (x := .inLoop c) rfl (fun _ _ => .inl (by simp)) harr⟩
end

/-- A node that is a leaf, its cells. -/
structure LeafD where
  a : Bool
  s : ByteArray
  e : Int
  b : Bool
  t : ByteArray
  f : Int
  x : Int
  y : Int
  z : Int
def leafV (v : LeafD) : Array Value := #[.bool v.a, .string v.s, .int .i64 v.e, .bool v.b, .string v.t, .int .i64 v.f, .int .i64 v.x, .int .u8 v.y, .int .i64 v.z, .int .i64 0, .int .i64 0, .int .i64 0, .int .i64 0]
theorem parts_eq (w : World) : (Op.equalIn 10000 180 (.agg #[.int .i64 0, .int .i64 0, .int .i64 0, .int .i64 0]) (.agg #[.int .i64 0, .int .i64 0, .int .i64 0, .int .i64 0])).run Tryz.prog w = .ok true w := by kernel_rfl
set_option maxRecDepth 100000 in
theorem parted_no (v : LeafD) (w : World) : Calls Tryz.prog 98 #[.agg (leafV v)] w fun e w' => e = .returned (.bool false) ∧ Kept w w' := by
  unfold leafV
  have he := parts_eq
  go_enter Tryz.func98, Tryz.ntmps98
  go_wp2_with fail
  go_ret
  exact ⟨rfl, (Below.refl _ _).alloc (Nat.le_refl _) _⟩
set_option maxRecDepth 100000 in
theorem none_no (b o : Nat) (x : Option Addr) (n c : Nat) (w : World) (h : w.cell? ⟨b, o + 1, none⟩ = some (.slice x (n + 1) c)) : Calls Tryz.prog 95 #[.pointer (some ⟨b, o, none⟩)] w fun e w' => e = .returned (.bool false) ∧ w' = w := by
  have hn : (((n + 1 : Nat) : Int) == 0) = false := by simp; omega
  go_enter Tryz.func95, Tryz.ntmps95
  go_wp2_with fail
  go_ret
  exact ⟨rfl, rfl⟩
set_option maxRecDepth 100000 in
set_option maxHeartbeats 2000000 in
theorem order1_one (v : LeafD) (l Bt bt ot bn on c : Nat) (J : Nat → World → Prop) (Kp : World → World → Prop) (W : World) (hJ : AbidesFrom W.heap.size J)
    (hY : ∀ W1, J 0 W1 → YieldAt Fence.wide 3 Tryz.prog l #[.int .i64 0] W1 fun e W' => e = .returned (.bool true) ∧ J 1 W' ∧ Kp W1 W')
    (h0 : W.cell? ⟨Bt, 0, none⟩ = some (.pointer (some ⟨bt, ot, none⟩))) (h1 : W.cell? ⟨bt, ot + 1, none⟩ = some (.slice (some ⟨bn, on, none⟩) 1 c))
    (hc : ∀ i x, (leafV v)[i]? = some x → W.cell? ⟨bn, on + i, none⟩ = some x) (hj : J 0 W) :
    CallsIn Fence.wide 4 Tryz.prog 227 #[.func (.yield l) #[] #[], .pointer (some ⟨Bt, 0, none⟩)] W fun e W' => (∃ u, e = .returned u) ∧ J 1 W' := by
  have CN := hide (fun (X : World) h => none_no bt ot (some ⟨bn, on, none⟩) 0 c X h)
  have CP := hide (fun (X : World) => parted_no v X)
  have HC : Hid (∀ i x, (leafV v)[i]? = some x → W.cell? ⟨bn, on + i, none⟩ = some x) := hc
  refine callsIn_of_wp Tryz.func227 rfl trivial ?_ rfl
  simp only [Tryz.ntmps227, List.size_toArray, List.length_cons, List.length_nil, Nat.reduceAdd, Nat.reduceSub, Array.replicate_succ, Array.replicate_zero, List.push_toArray, List.append_toArray, List.nil_append, List.cons_append]
  gi_wp2_with (refine ⟨trivial, ?_⟩; gi_at_call 95; refine (callsIn_wide.2 (CN.out _ h1)).mono ?_; rintro e w1 ⟨rfl, rfl⟩)
  have hb0 := lt_of_cell h1
  have hb1 := lt_of_cell h0
  have c0 : w1.cell? ⟨bn, on + 0, none⟩ = some (.bool v.a) := hc 0 _ rfl
  have c1 : w1.cell? ⟨bn, on + 1, none⟩ = some (.string v.s) := hc 1 _ rfl
  have c2 : w1.cell? ⟨bn, on + 2, none⟩ = some (.int .i64 v.e) := hc 2 _ rfl
  have c3 : w1.cell? ⟨bn, on + 3, none⟩ = some (.bool v.b) := hc 3 _ rfl
  have c4 : w1.cell? ⟨bn, on + 4, none⟩ = some (.string v.t) := hc 4 _ rfl
  have c5 : w1.cell? ⟨bn, on + 5, none⟩ = some (.int .i64 v.f) := hc 5 _ rfl
  have c6 : w1.cell? ⟨bn, on + 6, none⟩ = some (.int .i64 v.x) := hc 6 _ rfl
  have c7 : w1.cell? ⟨bn, on + 7, none⟩ = some (.int .u8 v.y) := hc 7 _ rfl
  have c8 : w1.cell? ⟨bn, on + 8, none⟩ = some (.int .i64 v.z) := hc 8 _ rfl
  have c9 : w1.cell? ⟨bn, on + 9, none⟩ = some (.int .i64 0) := hc 9 _ rfl
  have c10 : w1.cell? ⟨bn, on + 10, none⟩ = some (.int .i64 0) := hc 10 _ rfl
  have c11 : w1.cell? ⟨bn, on + 11, none⟩ = some (.int .i64 0) := hc 11 _ rfl
  have c12 : w1.cell? ⟨bn, on + 12, none⟩ = some (.int .i64 0) := hc 12 _ rfl
  have hb2 := lt_of_cell c0
  clear hc
  simp only [Nat.add_zero] at c0
  refine wpF_of_loop (loopF_round ?_)
  gi_wp2_with (refine ⟨trivial, ?_⟩; gi_at_call 98; refine (callsIn_wide.2 (CP.out _)).mono ?_; rintro e w2 ⟨rfl, hk2⟩; have K2 := hide (show Kept w1 w2 from ((((Below.refl _ w1).alloc (Nat.le_refl _) _).alloc (by simp) _).trans (hk2.mono (by simp; omega)))); obtain ⟨fn, tmps, asg, bd, hy, hR⟩ := hY w2 (hJ 0 w1 w2 none hj ⟨K2.out.os, K2.out.tape, K2.out.output, K2.out.size, fun k hk _ => K2.out.block k hk⟩ (by simp)))
  refine hR.mono ?_
  rintro e W3 ⟨rfl, hJ3, -⟩
  clear c0 c1 c2 c3 c4 c5 c6 c7 c8 c9 c10 c11 c12 h0 h1 hk2 hy hR
  gi_wp2
  refine loopF_round ?_
  gi_wp2
  go_end0
  exact ⟨⟨_, rfl⟩, hJ3⟩

noncomputable def leafOf (cs : List SV) : Option LeafD := match cs with
  | .v (.bool a) :: .v (.string s) :: .v (.int .i64 e) :: .v (.bool b) :: .v (.string t) :: .v (.int .i64 f) :: .v (.int .i64 x) :: .v (.int .u8 y) :: .v (.int .i64 z) :: .v (.int .i64 p) :: .v (.int .i64 q) :: .v (.int .i64 r) :: .v (.int .i64 u) :: _ =>
    guardO (decide (p = 0) && decide (q = 0) && decide (r = 0) && decide (u = 0)) (some ⟨a, s, e, b, t, f, x, y, z⟩)
  | _ => none
theorem leafOf_cells {cs : List SV} {v : LeafD} (h : leafOf cs = some v) (i : Nat) (x : Value) (hx : (leafV v)[i]? = some x) : ∃ y, cs[i]? = some y ∧ ∀ ρ, y.conc ρ = x := by
  unfold leafOf at h
  split at h
  · obtain ⟨h1, h⟩ := guardO_eq.1 h
    cases h
    simp only [Bool.and_eq_true, decide_eq_true_eq] at h1
    obtain ⟨⟨⟨rfl, rfl⟩, rfl⟩, rfl⟩ := h1
    have hi : i < 13 := by
      have := (Array.getElem?_eq_some_iff.1 hx).1
      simpa [leafV] using this
    rcases i with _ | _ | _ | _ | _ | _ | _ | _ | _ | _ | _ | _ | _ | i
    case succ.succ.succ.succ.succ.succ.succ.succ.succ.succ.succ.succ.succ => omega
    all_goals
      simp [leafV] at hx
      subst hx
      exact ⟨_, rfl, fun ρ => conc_v ρ _⟩
  · cases h
noncomputable def firstOf (heap : List Hp) (b i : Nat) : Option SV := bindO (hget heap b) fun bl => bl.cells[i]?
noncomputable def orderIt (caps : List SV) (heap : List Hp) : Option (List Nat × List (List SV)) := match caps with
  | [.ptr Bt off] => guardO (Nat.beq off (nat_lit 0)) (bindO (firstOf heap Bt 0) fun t => match t with
    | .ptr bt ot => bindO (firstOf heap bt (ot + 1)) fun n => match n with
      | .sl bn on k _ => guardO (Nat.beq k (nat_lit 1)) (bindO (hget heap bn) fun bl => bindO (leafOf (bl.cells.drop on)) fun _ => some ([], [[.v (.int .i64 (.ofNat (nat_lit 0)))]]))
      | _ => none
    | _ => none)
  | _ => none
noncomputable def itO : ItO := fun f caps heap => ifB (Nat.beq f 227) (orderIt caps heap) none
theorem itO_ok : ItOK Tryz.prog itO := by
  intro f caps heap deps els h
  unfold itO at h
  rcases beq_dec f 227 with ⟨e, rfl⟩ | ⟨e, -⟩
  · rw [e, ifB_true] at h
    unfold orderIt at h
    split at h
    · rename_i Bt off
      obtain ⟨h0, h⟩ := guardO_eq.1 h
      obtain ⟨t, ht, h⟩ := bindO_eq.1 h
      split at h
      · rename_i bt ot
        obtain ⟨n, hn, h⟩ := bindO_eq.1 h
        split at h
        · rename_i bn on k cp
          obtain ⟨hk, h⟩ := guardO_eq.1 h
          obtain ⟨bl, hbl, h⟩ := bindO_eq.1 h
          obtain ⟨v, hv, h⟩ := bindO_eq.1 h
          cases h
          obtain rfl : off = 0 := Nat.eq_of_beq_eq_true h0
          obtain rfl : k = 1 := Nat.eq_of_beq_eq_true hk
          obtain ⟨b1, hb1, hc1⟩ := bindO_eq.1 ht
          obtain ⟨b2, hb2, hc2⟩ := bindO_eq.1 hn
          refine ⟨fun el hel x hx n => ?_, fun b' hb' => (by cases hb'), fun args w => call_run Tryz.func227 rfl (by kernel_rfl) args w, fun ρ n w hh => ⟨fun k => #[.int .i64 k], fun k el hel => ?_, ?_⟩⟩
          · simp only [List.mem_cons, List.not_mem_nil, or_false] at hel
            subst hel
            simp only [List.mem_cons, List.not_mem_nil, or_false] at hx
            subst hx
            exact Sc.v _ _
          · rcases k with _ | k
            · cases hel; simp [conc_v]
            · cases hel
          · have hcap : ([SV.ptr Bt 0].map (SV.conc ρ)).toArray = #[.pointer (some ⟨ρ.blk Bt, 0, none⟩)] := by simp [conc_ptr]
            rw [hcap]
            have g0 := (hh.bk Bt b1 hb1).cell hc1
            have g1 := (hh.bk bt b2 hb2).cell hc2
            rw [conc_ptr] at g0
            have g2 : ∃ c, w.cell? ⟨ρ.blk bt, ot + 1, none⟩ = some (.slice (some ⟨ρ.blk bn, on, none⟩) 1 c) := by
              cases cp with
              | ex c => rw [conc_ex] at g1; exact ⟨_, g1⟩
              | un c => rw [conc_un] at g1; exact ⟨_, g1⟩
            obtain ⟨c, g2⟩ := g2
            have g3 : ∀ i x, (leafV v)[i]? = some x → w.cell? ⟨ρ.blk bn, on + i, none⟩ = some x := fun i x hx => by
              obtain ⟨y, hy, hyc⟩ := leafOf_cells hv i x hx
              rw [List.getElem?_drop] at hy
              exact hyc ρ ▸ (hh.bk bn bl hbl).cell hy
            intro l J W hW hJ hY hj
            have kc : ∀ {b o u}, w.cell? ⟨b, o, none⟩ = some u → W.cell? ⟨b, o, none⟩ = some u := fun {b o u} h => (hW.cell (p := ⟨b, o, none⟩) (lt_of_cell h)).trans h
            exact order1_one v l (ρ.blk Bt) (ρ.blk bt) ot (ρ.blk bn) on c J (KpI ρ []) W hJ (fun W1 h1 => hY 0 W1 h1 (by decide)) (kc g0) (kc g2) (fun i x hx => kc (g3 i x hx)) hj
        · cases h
      · cases h
    · cases h
  · rw [e, ifB_false] at h
    cases h
noncomputable def itsO : Its := ⟨itO, fun _ _ => false⟩
theorem itsO_ok : ItsOK Tryz.prog itsO := ⟨itO_ok, fun _ _ h => (by cases h)⟩
end Go.Proofs.YtneakieigiafpaaGreatDoor
