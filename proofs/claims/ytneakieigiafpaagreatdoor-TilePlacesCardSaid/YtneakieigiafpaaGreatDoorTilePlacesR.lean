/- TilePlaces: at any arguments it answers true, and they stay. No condition but the laid tables, which the card ties to the program's text. -/
import Derived.Test.YtneakieigiafpaaGreatDoorPlaX
import Derived.Test.YtneakieigiafpaaGreatDoorWA
import Derived.Test.YtneakieigiafpaaGreatDoorTilePlacesF
import Derived.Test.YtneakieigiafpaaGreatDoorFac
import Derived.Test.YtneakieigiafpaaGreatDoorTie
import Derived.ChangeMaps5
import Derived.SevenTiedAt
namespace Go.Proofs.YtneakieigiafpaaGreatDoor
open Go.ChangeShapes Go.WideShapes Go.ChangeAt Go.WideMaps Go.WideElems Go.RowKit Go.Ex
set_option maxRecDepth 100000

theorem TilePlaces.door_met (os : Os) (args : Array Value) : laidMetH Tryz.prog Rows.tilePlacesRow.laid ((World.doorLaid Tryz.prog 4000 os).forCall (fun _ _ => 0) ⟨#[], args, []⟩).memory :=
  laidMetH_of_parts3 (fuel := 8) (laidMet_of_run' 8 (by kernel_rfl) (by kernel_rfl)) (by kernel_rfl) (by kernel_rfl)
theorem TilePlaces.lifted (os : Os) (started : os.Started) (H : Type) (enc : TypeId × Value → H) :
    ReturnsInHanded {} Tryz.checked os 8 .any (fun w args => (Rows.tilePlacesSpec.pre enc Tryz.prog Tryz.f8 [] false w args ∧ laidMetH Tryz.prog Rows.tilePlacesRow.laid w) ∧ sizedMet enc Tryz.prog Tryz.f8 (OpenSpec.ofChange Rows.tilePlacesSpec) false w args)
      (Rows.tilePlacesSpec.post enc Tryz.prog Tryz.f8 false true false false) := by
  refine returnsInHanded_of_change_and (C := Tryz.checked) (X := fun w _ => laidMetH Tryz.prog Rows.tilePlacesRow.laid w) (fun _ _ _ hh h => h.of_heap hh) prog_own started (by kernel_rfl) Tryz.func8
    (ChangeSpec.witness_shaped (enc := enc) (C := Tryz.checked) (os := os) (X := fun w _ => laidMetH Tryz.prog Rows.tilePlacesRow.laid w) false (World.doorLaid Tryz.prog 4000 os) #[.agg #[.bool false, .string ⟨#[]⟩, .int .i64 0, .bool false, .string ⟨#[]⟩, .int .i64 0, .int .i64 0, .int .i64 0, .int .i64 0, .int .i64 0, .int .i64 0], .int .i64 0, .int .i64 0] 8 rfl (World.shaped_of_RefB (by kernel_rfl) (by kernel_rfl)) (by kernel_rfl) (by kernel_rfl) (by kernel_rfl) (TilePlaces.door_met os _)) ?_
  intro W base args ds gs before hval0 hW _ _ hL _
  have hval : ∀ (j : Nat) t v, Tryz.f8.params[j]? = some t → args[j]? = some v → Value.okWide Tryz.prog W .any base t v := hval0
  have hW' := hW
  obtain ⟨p, q, hA0, hV, rfl, hfz, hnd⟩ := hW
  have hA : DataW.TrodAll enc Tryz.prog W 0 (fun _ => true) true Tryz.f8.params.toList args.toList ds p := hA0
  rw [Tryz.params8] at hA hval
  obtain ⟨v0, vs0, d0, ds0, p0, q0, hargs, rfl, rfl, h0, r0⟩ := trodAll_cons hA
  obtain ⟨v1, vs1, d1, ds1, p1, q1, rfl, rfl, rfl, h1, r1⟩ := trodAll_cons r0
  obtain ⟨v2, vs2, d2, ds2, p2, q2, rfl, rfl, rfl, h2, r2⟩ := trodAll_cons r1
  obtain ⟨rfl, rfl, rfl⟩ := trodAll_nil r2
  obtain rfl : args = #[v0, v1, v2] := by cases args; simp_all
  obtain ⟨rfl, rfl⟩ := trodVars_none hV
  have k0 := h0
  have lt0 : ∀ x ∈ p0, x.block < W.heap.size := by obtain ⟨m, hm⟩ := k0; exact DataW.trod_lt m _ _ _ hm
  have k1 := h1
  have lt1 : ∀ x ∈ p1, x.block < W.heap.size := by obtain ⟨m, hm⟩ := k1; exact DataW.trod_lt m _ _ _ hm
  have k2 := h2
  have lt2 : ∀ x ∈ p2, x.block < W.heap.size := by obtain ⟨m, hm⟩ := k2; exact DataW.trod_lt m _ _ _ hm
  obtain ⟨g0, HG0, rfl⟩ := open_grid (hval 0 31 _ rfl rfl) h0
  obtain ⟨n1, rfl, -, -, w1⟩ := open_int Tryz.underlying3 (hval 1 3 _ rfl rfl) h1
  have B1 := bounds_i64 w1
  obtain ⟨n2, rfl, -, -, w2⟩ := open_int Tryz.underlying3 (hval 2 3 _ rfl rfl) h2
  have B2 := bounds_i64 w2
  refine (places_any g0 n1 n2 W HG0 B1 B2 (hpBoth hL)).mono fun e W' ⟨he, bel⟩ => ?_
  subst he
  exact ⟨_, rfl, _, _, _, [], _, [], hW', trodAll_mk1 (shut_bool Tryz.underlying4 _), (trodAll_cons_mk (Below.trod prog_laidOut (by kernel_rfl) (of_decide_eq_true (by kernel_rfl)) k0 bel lt0) (trodAll_cons_mk (Below.trod prog_laidOut (by kernel_rfl) (of_decide_eq_true (by kernel_rfl)) k1 bel lt1) (trodAll_cons_mk (Below.trod prog_laidOut (by kernel_rfl) (of_decide_eq_true (by kernel_rfl)) k2 bel lt2) (trodAll_mk0)))), rfl, bel.frame _, fun h => by cases h⟩
theorem TilePlaces.over : Rows.tilePlacesRow.holds Tryz.pinned (OpenSpec.ofChange Rows.tilePlacesSpec) :=
  OpenClaim.holds_of_wide 8 Tryz.f8 rfl rfl rfl rfl rfl rfl rfl ⟨rfl, rfl, rfl, rfl, rfl⟩ rfl rfl rfl rfl rfl TilePlaces.named Tryz.func8 TilePlaces.facts
    (of_decide_eq_true (by kernel_rfl)) (by unfold Func.isWrapper; first | (rw [if_pos (by decide +kernel)]; kernel_rfl) | (rw [if_neg (by decide +kernel)]; exact ⟨rfl, rfl⟩))
    (fun os started H enc _ => TilePlaces.lifted os started H enc)
theorem tilePlaces_proved : Rows.TilePlacesCardSaid :=
  Claim7.holds_tied_plain_at .later [] Rows.tilePlacesCard.laidKinds true Rows.tilePlacesCard.stood.harness true
    TilePlaces.over (fun _ h => by cases h) TilePlaces.wf (fun _ h => by cases h) tilePlaces_row_tie rfl ⟨rfl, rfl⟩ prog_main rfl
    (fun f fn hf hfn => by
      obtain rfl : f = 8 := (Option.some.inj (TilePlaces.named.symm.trans hf)).symm
      obtain rfl : fn = Tryz.f8 := (Option.some.inj (Tryz.func8.symm.trans hfn)).symm
      exact ⟨prog_looks.symm, fun j t ht => by
        rw [Tryz.params8] at ht
        rcases j with _ | _ | _ | j
        · obtain rfl := Option.some.inj ht
          kernel_rfl
        · obtain rfl := Option.some.inj ht
          kernel_rfl
        · obtain rfl := Option.some.inj ht
          kernel_rfl
        · simp at ht⟩)
    TilePlaces.goes
#print axioms tilePlaces_proved
end Go.Proofs.YtneakieigiafpaaGreatDoor
