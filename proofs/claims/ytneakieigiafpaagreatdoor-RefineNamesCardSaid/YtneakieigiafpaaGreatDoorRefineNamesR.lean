/- RefineNames: it answers true. No condition but the laid tables, which the card ties to the program's text. -/
import Derived.Test.YtneakieigiafpaaGreatDoorRefineNamesN
import Derived.Test.YtneakieigiafpaaGreatDoorRefineNamesF
import Derived.Test.YtneakieigiafpaaGreatDoorFac
import Derived.Test.YtneakieigiafpaaGreatDoorTie
import Derived.ChangeMaps5
import Derived.SevenTiedAt
namespace Go.Proofs.YtneakieigiafpaaGreatDoor
open Go.ChangeShapes Go.WideShapes Go.ChangeAt Go.WideMaps Go.WideElems Go.RowKit Go.Ex
set_option maxRecDepth 100000

theorem RefineNames.door_met (os : Os) (args : Array Value) : laidMetH Tryz.prog Rows.refineNamesRow.laid ((World.doorLaid Tryz.prog 4000 os).forCall (fun _ _ => 0) ⟨#[], args, []⟩).memory :=
  laidMetH_of_parts3 (fuel := 8) (laidMet_of_run' 8 (by kernel_rfl) (by kernel_rfl)) (by kernel_rfl) (by kernel_rfl)
theorem RefineNames.lifted (os : Os) (started : os.Started) (H : Type) (enc : TypeId × Value → H) :
    ReturnsInHanded {} Tryz.checked os 4 .any (fun w args => (Rows.refineNamesSpec.pre enc Tryz.prog Tryz.f4 [] false w args ∧ laidMetH Tryz.prog Rows.refineNamesRow.laid w) ∧ sizedMet enc Tryz.prog Tryz.f4 (OpenSpec.ofChange Rows.refineNamesSpec) false w args)
      (Rows.refineNamesSpec.post enc Tryz.prog Tryz.f4 false true false false) := by
  refine returnsInHanded_of_change_and (C := Tryz.checked) (X := fun w _ => laidMetH Tryz.prog Rows.refineNamesRow.laid w) (fun _ _ _ hh h => h.of_heap hh) prog_own started (by kernel_rfl) Tryz.func4
    (ChangeSpec.witness_shaped (enc := enc) (C := Tryz.checked) (os := os) (X := fun w _ => laidMetH Tryz.prog Rows.refineNamesRow.laid w) false (World.doorLaid Tryz.prog 4000 os) #[] 8 rfl (World.shaped_of_RefB (by kernel_rfl) (by kernel_rfl)) (by kernel_rfl) (by kernel_rfl) (by kernel_rfl) (RefineNames.door_met os _)) ?_
  intro W base args ds gs before hval0 hW _ _ hL _
  have hW' := hW
  obtain ⟨p, q, hA0, hV, rfl, hfz, hnd⟩ := hW
  have hA : DataW.TrodAll enc Tryz.prog W 0 (fun _ => true) true Tryz.f4.params.toList args.toList ds p := hA0
  rw [Tryz.params4] at hA
  obtain ⟨hargs, rfl, rfl⟩ := trodAll_nil hA
  obtain rfl : args = #[] := by cases args; simp_all
  obtain ⟨rfl, rfl⟩ := trodVars_none hV
  refine (run_trueI (fn := Tryz.f4) (args := []) refTT_ok itsO_ok refineNames_run Tryz.func4 rfl (by kernel_rfl) (hp32 hL) (fun x hx => by cases hx)).mono fun e W' ⟨he, bel⟩ => ?_
  subst he
  exact ⟨_, rfl, _, _, _, [], _, [], hW', trodAll_mk1 (shut_bool Tryz.underlying4 _), trodAll_mk0, rfl, bel.frame _, fun h => by cases h⟩
theorem RefineNames.over : Rows.refineNamesRow.holds Tryz.pinned (OpenSpec.ofChange Rows.refineNamesSpec) :=
  OpenClaim.holds_of_wide 4 Tryz.f4 rfl rfl rfl rfl rfl rfl rfl ⟨rfl, rfl, rfl, rfl, rfl⟩ rfl rfl rfl rfl rfl RefineNames.named Tryz.func4 RefineNames.facts
    (of_decide_eq_true (by kernel_rfl)) (by unfold Func.isWrapper; first | (rw [if_pos (by decide +kernel)]; kernel_rfl) | (rw [if_neg (by decide +kernel)]; exact ⟨rfl, rfl⟩))
    (fun os started H enc _ => RefineNames.lifted os started H enc)
theorem refineNames_proved : Rows.RefineNamesCardSaid :=
  Claim7.holds_tied_plain_at .later [] Rows.refineNamesCard.laidKinds true Rows.refineNamesCard.stood.harness true
    RefineNames.over (fun _ h => by cases h) RefineNames.wf (fun _ h => by cases h) refineNames_row_tie rfl ⟨rfl, rfl⟩ prog_main rfl
    (fun f fn hf hfn => by
      obtain rfl : f = 4 := (Option.some.inj (RefineNames.named.symm.trans hf)).symm
      obtain rfl : fn = Tryz.f4 := (Option.some.inj (Tryz.func4.symm.trans hfn)).symm
      exact ⟨prog_looks.symm, fun j t ht => by
        rw [Tryz.params4] at ht
        simp at ht⟩)
    RefineNames.goes
#print axioms refineNames_proved
end Go.Proofs.YtneakieigiafpaaGreatDoor
