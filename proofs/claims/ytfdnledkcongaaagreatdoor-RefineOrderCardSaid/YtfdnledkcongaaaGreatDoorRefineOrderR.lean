/- RefineOrder: at any arguments it answers true, and they stay. No condition but the laid tables, .. -/
import Derived.Test.YtfdnledkcongaaaGreatDoorQ16
import Derived.Test.YtfdnledkcongaaaGreatDoorTie
import Derived.ChangeMaps5
import Derived.SevenTiedAt
set_option linter.all false
namespace Go.Proofs.YtfdnledkcongaaaGreatDoor
open Go.RowKit Go.Proofs.Tryz
open Go.ChangeShapes Go.WideShapes Go.ChangeAt Go.WideMaps Go.WideElems Go.RowKit
set_option maxRecDepth 100000
theorem RefineOrder.door_met (os : Os) (args : Array Value) : laidMetH Tryz.prog Rows.refineOrderRow.laid ((World.doorLaid Tryz.prog 4000 os).forCall (fun _ _ => 0) ⟨#[], args, []⟩).memory :=
 laidMetH_of_parts3 (fuel := 8) (laidMet_of_run' 8 (by kernel_rfl) (by kernel_rfl)) (by kernel_rfl) (by kernel_rfl)
theorem RefineOrder.lifted (os : Os) (started : os.Started) (H : Type) (enc : TypeId × Value → H) :
  ReturnsInHanded {} Tryz.checked os 3 .any (fun w args => (Rows.refineOrderSpec.pre enc Tryz.prog Tryz.f3 [] false w args ∧ laidMetH Tryz.prog Rows.refineOrderRow.laid w) ∧ sizedMet enc Tryz.prog Tryz.f3 (OpenSpec.ofChange Rows.refineOrderSpec) false w args)
   (Rows.refineOrderSpec.post enc Tryz.prog Tryz.f3 false true false false) := by
 refine returnsInHanded_of_change_and (C := Tryz.checked) (X := fun w _ => laidMetH Tryz.prog Rows.refineOrderRow.laid w) (fun _ _ _ hh h => h.of_heap hh) qnR started (by kernel_rfl) Tryz.func3
  (ChangeSpec.witness_shaped (enc := enc) (C := Tryz.checked) (os := os) (X := fun w _ => laidMetH Tryz.prog Rows.refineOrderRow.laid w) false (World.doorLaid Tryz.prog 4000 os) #[.agg ZL4.toArray, .agg ZL6.toArray, .slice none 0 0, .agg ZL0.toArray, .agg ZL0.toArray, .int .i64 0, .int .i64 0] 8 rfl (World.shaped_of_RefB (by kernel_rfl) (by kernel_rfl)) (by kernel_rfl) (by kernel_rfl) (by kernel_rfl) (RefineOrder.door_met os _)) ?_
 intro W base args ds gs before hval0 hW _ hsz hL _
 have hval : ∀ (j : Nat) t v, Tryz.f3.params[j]? = some t → args[j]? = some v → Value.okWide Tryz.prog W .any base t v := hval0
 have hW' := hW
 obtain ⟨p, q, hA0, hV, rfl, hfz, hnd⟩ := hW
 have hA : DataW.TrodAll enc Tryz.prog W 0 (fun _ => true) true Tryz.f3.params.toList args.toList ds p := hA0
 rw [Tryz.params3] at hA hval
 obtain ⟨v0, vs0, d0, ds0, p0, q0, hargs, rfl, rfl, h0, r0⟩ := trodAll_cons hA
 obtain ⟨v1, vs1, d1, ds1, p1, q1, rfl, rfl, rfl, h1, r1⟩ := trodAll_cons r0
 obtain ⟨v2, vs2, d2, ds2, p2, q2, rfl, rfl, rfl, h2, r2⟩ := trodAll_cons r1
 obtain ⟨v3, vs3, d3, ds3, p3, q3, rfl, rfl, rfl, h3, r3⟩ := trodAll_cons r2
 obtain ⟨v4, vs4, d4, ds4, p4, q4, rfl, rfl, rfl, h4, r4⟩ := trodAll_cons r3
 obtain ⟨v5, vs5, d5, ds5, p5, q5, rfl, rfl, rfl, h5, r5⟩ := trodAll_cons r4
 obtain ⟨v6, vs6, d6, ds6, p6, q6, rfl, rfl, rfl, h6, r6⟩ := trodAll_cons r5
 obtain ⟨rfl, rfl, rfl⟩ := trodAll_nil r6
 obtain rfl : args = #[v0, v1, v2, v3, v4, v5, v6] := by cases args; simp_all
 obtain ⟨rfl, rfl⟩ := trodVars_none hV
 have k0 := h0
 have lt0 : ∀ x ∈ p0, x.block < W.heap.size := by obtain ⟨m, hm⟩ := k0; exact DataW.trod_lt m _ _ _ hm
 have k1 := h1
 have lt1 : ∀ x ∈ p1, x.block < W.heap.size := by obtain ⟨m, hm⟩ := k1; exact DataW.trod_lt m _ _ _ hm
 have k2 := h2
 have lt2 : ∀ x ∈ p2, x.block < W.heap.size := by obtain ⟨m, hm⟩ := k2; exact DataW.trod_lt m _ _ _ hm
 have k3 := h3
 have lt3 : ∀ x ∈ p3, x.block < W.heap.size := by obtain ⟨m, hm⟩ := k3; exact DataW.trod_lt m _ _ _ hm
 have k4 := h4
 have lt4 : ∀ x ∈ p4, x.block < W.heap.size := by obtain ⟨m, hm⟩ := k4; exact DataW.trod_lt m _ _ _ hm
 have k5 := h5
 have lt5 : ∀ x ∈ p5, x.block < W.heap.size := by obtain ⟨m, hm⟩ := k5; exact DataW.trod_lt m _ _ _ hm
 have k6 := h6
 have lt6 : ∀ x ∈ p6, x.block < W.heap.size := by obtain ⟨m, hm⟩ := k6; exact DataW.trod_lt m _ _ _ hm
 obtain ⟨cs0, rfl, -⟩ := okWide_struct Tryz.underlying26 (hval 0 26 _ rfl rfl)
 obtain ⟨fu0, hf0⟩ := h0
 obtain ⟨s0, hs0, hc0⟩ := qia (cs := cs0.toList) hf0
 obtain rfl : cs0 = (s0.qcL).toArray := by rw [← hc0]
 obtain ⟨cs1, rfl, -⟩ := okWide_struct Tryz.underlying31 (hval 1 31 _ rfl rfl)
 obtain ⟨fu1, hf1⟩ := h1
 obtain ⟨u1, hu1, hc1⟩ := qjI (cs := cs1.toList) hf1
 obtain rfl : cs1 = (ruL u1).toArray := by rw [← hc1]
 obtain ⟨Aq2, nq2, cq2, rfl⟩ := okWide_slice Tryz.underlying32 (hval 2 32 _ rfl rfl)
 obtain ⟨fu2, hf2⟩ := h2
 obtain ⟨A2, c2, l2, hv2, hnc2, hcm2, hr2, hg2, hb2⟩ := qjW (v := .slice Aq2 nq2 cq2) (x := (d2, p2)) hf2 (qi9 hsz (j := 2) (by rw [Tryz.params3]; rfl) (by rfl))
 injection hv2 with hva2 hvb2 hvc2
 subst hva2 hvb2 hvc2
 obtain ⟨cs3, rfl, -⟩ := okWide_struct Tryz.underlying28 (hval 3 28 _ rfl rfl)
 obtain ⟨fu3, hf3⟩ := h3
 obtain ⟨g3, hg3, hc3⟩ := qdP (cs := cs3.toList) hf3
 obtain rfl : cs3 = (g3.qcL).toArray := by rw [← hc3]
 obtain ⟨cs4, rfl, -⟩ := okWide_struct Tryz.underlying28 (hval 4 28 _ rfl rfl)
 obtain ⟨fu4, hf4⟩ := h4
 obtain ⟨g4, hg4, hc4⟩ := qdP (cs := cs4.toList) hf4
 obtain rfl : cs4 = (g4.qcL).toArray := by rw [← hc4]
 obtain ⟨n5, rfl, -, -, w5⟩ := open_int Tryz.underlying3 (hval 5 3 _ rfl rfl) h5
 have B5 := bounds_i64 w5
 obtain ⟨n6, rfl, -, -, w6⟩ := open_int Tryz.underlying3 (hval 6 3 _ rfl rfl) h6
 have B6 := bounds_i64 w6
 refine (qjM (s := s0) (u := u1) (A := Aq2) (c := cq2) (l := l2) (G := g3) (H := g4) (a := n5) (b := n6) hs0 hu1 hg2 hr2 hb2 hnc2 hcm2 hg3.1 hg3.2 hg4.1 hg4.2 (qoP hL)).mono fun e W' ⟨he, bel⟩ => ?_
 subst he
 exact ⟨_, rfl, _, _, _, [], _, [], hW', trodAll_mk1 (shut_bool Tryz.underlying4 _), (trodAll_cons_mk (Below.trod qbL (by kernel_rfl) (of_decide_eq_true (by kernel_rfl)) k0 bel lt0) (trodAll_cons_mk (Below.trod qbL (by kernel_rfl) (of_decide_eq_true (by kernel_rfl)) k1 bel lt1) (trodAll_cons_mk (Below.trod qbL (by kernel_rfl) (of_decide_eq_true (by kernel_rfl)) k2 bel lt2) (trodAll_cons_mk (Below.trod qbL (by kernel_rfl) (of_decide_eq_true (by kernel_rfl)) k3 bel lt3) (trodAll_cons_mk (Below.trod qbL (by kernel_rfl) (of_decide_eq_true (by kernel_rfl)) k4 bel lt4) (trodAll_cons_mk (Below.trod qbL (by kernel_rfl) (of_decide_eq_true (by kernel_rfl)) k5 bel lt5) (trodAll_cons_mk (Below.trod qbL (by kernel_rfl) (of_decide_eq_true (by kernel_rfl)) k6 bel lt6) (trodAll_mk0)))))))), rfl, bel.frame _, fun h => by cases h⟩
theorem RefineOrder.over : Rows.refineOrderRow.holds Tryz.pinned (OpenSpec.ofChange Rows.refineOrderSpec) :=
 OpenClaim.holds_of_wide 3 Tryz.f3 rfl rfl rfl rfl rfl rfl rfl ⟨rfl, rfl, rfl, rfl, rfl⟩ rfl rfl rfl rfl rfl RefineOrder.named Tryz.func3 RefineOrder.facts
  (of_decide_eq_true (by kernel_rfl)) (by unfold Func.isWrapper; first | (rw [if_pos (by decide +kernel)]; kernel_rfl) | (rw [if_neg (by decide +kernel)]; exact ⟨rfl, rfl⟩))
  (fun os started H enc _ => RefineOrder.lifted os started H enc)
theorem refineOrder_proved : Rows.RefineOrderCardSaid :=
 Claim7.holds_tied_plain_at .later [] Rows.refineOrderCard.laidKinds true Rows.refineOrderCard.stood.harness false
  RefineOrder.over (fun _ h => by cases h) RefineOrder.wf (fun _ h => by cases h) refineOrder_row_tie rfl ⟨rfl, rfl⟩ qlh rfl
  (fun f fn hf hfn => by
   obtain rfl : f = 3 := (Option.some.inj (RefineOrder.named.symm.trans hf)).symm
   obtain rfl : fn = Tryz.f3 := (Option.some.inj (Tryz.func3.symm.trans hfn)).symm
   exact ⟨qkL.symm, fun j t ht => by
    rw [Tryz.params3] at ht
    rcases j with _ | _ | _ | _ | _ | _ | _ | j
    ·obtain rfl := Option.some.inj ht
     kernel_rfl
    ·obtain rfl := Option.some.inj ht
     kernel_rfl
    ·obtain rfl := Option.some.inj ht
     kernel_rfl
    ·obtain rfl := Option.some.inj ht
     kernel_rfl
    ·obtain rfl := Option.some.inj ht
     kernel_rfl
    ·obtain rfl := Option.some.inj ht
     kernel_rfl
    ·obtain rfl := Option.some.inj ht
     kernel_rfl
    ·simp at ht⟩)
  RefineOrder.goes
#print axioms refineOrder_proved
end Go.Proofs.YtfdnledkcongaaaGreatDoor
