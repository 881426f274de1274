/- RefineDisc: at any arguments it answers true, and they stay. No condition but the laid tables, .. -/
import Derived.Test.YtfdnledkcongaaaGreatDoorQ15
import Derived.Test.YtfdnledkcongaaaGreatDoorTie
import Derived.ChangeMaps5
import Derived.SevenTiedAt
set_option linter.all false
namespace Go.Proofs.YtfdnledkcongaaaGreatDoor
open Go.RowKit Go.Proofs.Tryz
open Go.ChangeShapes Go.WideShapes Go.ChangeAt Go.WideMaps Go.WideElems Go.RowKit
set_option maxRecDepth 100000
theorem RefineDisc.door_met (os : Os) (args : Array Value) : laidMetH Tryz.prog Rows.refineDiscRow.laid ((World.doorLaid Tryz.prog 4000 os).forCall (fun _ _ => 0) ⟨#[], args, []⟩).memory :=
 laidMetH_of_parts3 (fuel := 8) (laidMet_of_run' 8 (by kernel_rfl) (by kernel_rfl)) (by kernel_rfl) (by kernel_rfl)
theorem RefineDisc.lifted (os : Os) (started : os.Started) (H : Type) (enc : TypeId × Value → H) :
  ReturnsInHanded {} Tryz.checked os 5 .any (fun w args => (Rows.refineDiscSpec.pre enc Tryz.prog Tryz.f5 [] false w args ∧ laidMetH Tryz.prog Rows.refineDiscRow.laid w) ∧ sizedMet enc Tryz.prog Tryz.f5 (OpenSpec.ofChange Rows.refineDiscSpec) false w args)
   (Rows.refineDiscSpec.post enc Tryz.prog Tryz.f5 false true false false) := by
 refine returnsInHanded_of_change_and (C := Tryz.checked) (X := fun w _ => laidMetH Tryz.prog Rows.refineDiscRow.laid w) (fun _ _ _ hh h => h.of_heap hh) qnR started (by kernel_rfl) Tryz.func5
  (ChangeSpec.witness_shaped (enc := enc) (C := Tryz.checked) (os := os) (X := fun w _ => laidMetH Tryz.prog Rows.refineDiscRow.laid w) false (World.doorLaid Tryz.prog 4000 os) #[.agg ZL4.toArray, .agg ZL0.toArray, .agg #[.bool false, .string ⟨#[]⟩, .int .i64 0], .int .i64 0, .agg ZL0.toArray] 8 rfl (World.shaped_of_RefB (by kernel_rfl) (by kernel_rfl)) (by kernel_rfl) (by kernel_rfl) (by kernel_rfl) (RefineDisc.door_met os _)) ?_
 intro W base args ds gs before hval0 hW _ hsz hL _
 have hval : ∀ (j : Nat) t v, Tryz.f5.params[j]? = some t → args[j]? = some v → Value.okWide Tryz.prog W .any base t v := hval0
 have hW' := hW
 obtain ⟨p, q, hA0, hV, rfl, hfz, hnd⟩ := hW
 have hA : DataW.TrodAll enc Tryz.prog W 0 (fun _ => true) true Tryz.f5.params.toList args.toList ds p := hA0
 rw [Tryz.params5] at hA hval
 obtain ⟨v0, vs0, d0, ds0, p0, q0, hargs, rfl, rfl, h0, r0⟩ := trodAll_cons hA
 obtain ⟨v1, vs1, d1, ds1, p1, q1, rfl, rfl, rfl, h1, r1⟩ := trodAll_cons r0
 obtain ⟨v2, vs2, d2, ds2, p2, q2, rfl, rfl, rfl, h2, r2⟩ := trodAll_cons r1
 obtain ⟨v3, vs3, d3, ds3, p3, q3, rfl, rfl, rfl, h3, r3⟩ := trodAll_cons r2
 obtain ⟨v4, vs4, d4, ds4, p4, q4, rfl, rfl, rfl, h4, r4⟩ := trodAll_cons r3
 obtain ⟨rfl, rfl, rfl⟩ := trodAll_nil r4
 obtain rfl : args = #[v0, v1, v2, v3, v4] := by cases args; simp_all
 obtain ⟨rfl, rfl⟩ := trodVars_none hV
 have k0 := h0
 have lt0 : ∀ x ∈ p0, x.block < W.heap.size := by obtain ⟨m, hm⟩ := k0; exact DataW.trod_lt m _ _ _ hm
 have k1 := h1
 have lt1 : ∀ x ∈ p1, x.block < W.heap.size := by obtain ⟨m, hm⟩ := k1; exact DataW.trod_lt m _ _ _ hm
 have k2 := h2
 have lt2 : ∀ x ∈ p2, x.block < W.heap.size := by obtain ⟨m, hm⟩ := k2; exact DataW.trod_lt m _ _ _ hm
 have k3 := h3
 have lt3 : ∀ x ∈ p3, x.block < W.heap.size := by obtain ⟨m, hm⟩ := k3; exact DataW.trod_lt m _ _ _ hm
 have k4 := h4
 have lt4 : ∀ x ∈ p4, x.block < W.heap.size := by obtain ⟨m, hm⟩ := k4; exact DataW.trod_lt m _ _ _ hm
 obtain ⟨cs0, rfl, -⟩ := okWide_struct Tryz.underlying26 (hval 0 26 _ rfl rfl)
 obtain ⟨fu0, hf0⟩ := h0
 obtain ⟨s0, hs0, hc0⟩ := qia (cs := cs0.toList) hf0
 obtain rfl : cs0 = (s0.qcL).toArray := by rw [← hc0]
 obtain ⟨cs1, rfl, -⟩ := okWide_struct Tryz.underlying28 (hval 1 28 _ rfl rfl)
 obtain ⟨fu1, hf1⟩ := h1
 obtain ⟨g1, hg1, hc1⟩ := qdP (cs := cs1.toList) hf1
 obtain rfl : cs1 = (g1.qcL).toArray := by rw [← hc1]
 obtain ⟨cs2, rfl, -⟩ := okWide_struct Tryz.underlying24 (hval 2 24 _ rfl rfl)
 obtain ⟨fu2, hf2⟩ := h2
 obtain ⟨y2, hy2, hc2⟩ := qdv (cs := cs2.toList) hf2
 obtain rfl : cs2 = (y2.qcL).toArray := by rw [← hc2]
 obtain ⟨n3, rfl, -, -, w3⟩ := open_int Tryz.underlying3 (hval 3 3 _ rfl rfl) h3
 have B3 := bounds_i64 w3
 obtain ⟨cs4, rfl, -⟩ := okWide_struct Tryz.underlying28 (hval 4 28 _ rfl rfl)
 obtain ⟨fu4, hf4⟩ := h4
 obtain ⟨g4, hg4, hc4⟩ := qdP (cs := cs4.toList) hf4
 obtain rfl : cs4 = (g4.qcL).toArray := by rw [← hc4]
 refine (disc_walk (s := s0) (c := g1) (r := y2) (D := n3) (g := g4) hs0 hg1.1 hg1.2 hy2 hg4.1 hg4.2 (qoP hL)).mono fun e W' ⟨he, bel⟩ => ?_
 subst he
 exact ⟨_, rfl, _, _, _, [], _, [], hW', trodAll_mk1 (shut_bool Tryz.underlying4 _), (trodAll_cons_mk (Below.trod qbL (by kernel_rfl) (of_decide_eq_true (by kernel_rfl)) k0 bel lt0) (trodAll_cons_mk (Below.trod qbL (by kernel_rfl) (of_decide_eq_true (by kernel_rfl)) k1 bel lt1) (trodAll_cons_mk (Below.trod qbL (by kernel_rfl) (of_decide_eq_true (by kernel_rfl)) k2 bel lt2) (trodAll_cons_mk (Below.trod qbL (by kernel_rfl) (of_decide_eq_true (by kernel_rfl)) k3 bel lt3) (trodAll_cons_mk (Below.trod qbL (by kernel_rfl) (of_decide_eq_true (by kernel_rfl)) k4 bel lt4) (trodAll_mk0)))))), rfl, bel.frame _, fun h => by cases h⟩
theorem RefineDisc.over : Rows.refineDiscRow.holds Tryz.pinned (OpenSpec.ofChange Rows.refineDiscSpec) :=
 OpenClaim.holds_of_wide 5 Tryz.f5 rfl rfl rfl rfl rfl rfl rfl ⟨rfl, rfl, rfl, rfl, rfl⟩ rfl rfl rfl rfl rfl RefineDisc.named Tryz.func5 RefineDisc.facts
  (of_decide_eq_true (by kernel_rfl)) (by unfold Func.isWrapper; first | (rw [if_pos (by decide +kernel)]; kernel_rfl) | (rw [if_neg (by decide +kernel)]; exact ⟨rfl, rfl⟩))
  (fun os started H enc _ => RefineDisc.lifted os started H enc)
theorem refineDisc_proved : Rows.RefineDiscCardSaid :=
 Claim7.holds_tied_plain_at .later [] Rows.refineDiscCard.laidKinds true Rows.refineDiscCard.stood.harness false
  RefineDisc.over (fun _ h => by cases h) RefineDisc.wf (fun _ h => by cases h) refineDisc_row_tie rfl ⟨rfl, rfl⟩ qlh rfl
  (fun f fn hf hfn => by
   obtain rfl : f = 5 := (Option.some.inj (RefineDisc.named.symm.trans hf)).symm
   obtain rfl : fn = Tryz.f5 := (Option.some.inj (Tryz.func5.symm.trans hfn)).symm
   exact ⟨qkL.symm, fun j t ht => by
    rw [Tryz.params5] at ht
    rcases j with _ | _ | _ | _ | _ | j
    ·obtain rfl := Option.some.inj ht
     kernel_rfl
    ·obtain rfl := Option.some.inj ht
     kernel_rfl
    ·obtain rfl := Option.some.inj ht
     kernel_rfl
    ·obtain rfl := Option.some.inj ht
     kernel_rfl
    ·obtain rfl := Option.some.inj ht
     kernel_rfl
    ·simp at ht⟩)
  RefineDisc.goes
#print axioms refineDisc_proved
end Go.Proofs.YtfdnledkcongaaaGreatDoor
