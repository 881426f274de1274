/- TileJoins: at any arguments it answers true, and they stay. No condition but the laid tables, which the card ties to the program's text. -/
import Derived.Test.YtneakieigiafpaaGreatDoorJoiX
import Derived.Test.YtneakieigiafpaaGreatDoorOpenLs
import Derived.Test.YtneakieigiafpaaGreatDoorOpenGr
import Derived.Test.YtneakieigiafpaaGreatDoorTileJoinsF
import Derived.Test.YtneakieigiafpaaGreatDoorFac
import Derived.Test.YtneakieigiafpaaGreatDoorTie
import Derived.ChangeMaps5
import Derived.SevenTiedAt
namespace Go.Proofs.YtneakieigiafpaaGreatDoor
open Go.ChangeShapes Go.WideShapes Go.ChangeAt Go.WideMaps Go.WideElems Go.RowKit Go.Ex
set_option maxRecDepth 100000

theorem TileJoins.door_met (os : Os) (args : Array Value) : laidMetH Tryz.prog Rows.tileJoinsRow.laid ((World.doorLaid Tryz.prog 4000 os).forCall (fun _ _ => 0) ⟨#[], args, []⟩).memory :=
  laidMetH_of_parts3 (fuel := 8) (laidMet_of_run' 8 (by kernel_rfl) (by kernel_rfl)) (by kernel_rfl) (by kernel_rfl)
set_option maxHeartbeats 800000 in
theorem TileJoins.lifted (os : Os) (started : os.Started) (H : Type) (enc : TypeId × Value → H) :
    ReturnsInHanded {} Tryz.checked os 12 .any (fun w args => (Rows.tileJoinsSpec.pre enc Tryz.prog Tryz.f12 [] false w args ∧ laidMetH Tryz.prog Rows.tileJoinsRow.laid w) ∧ sizedMet enc Tryz.prog Tryz.f12 (OpenSpec.ofChange Rows.tileJoinsSpec) false w args)
      (Rows.tileJoinsSpec.post enc Tryz.prog Tryz.f12 false true false false) := by
  refine returnsInHanded_of_change_and (C := Tryz.checked) (X := fun w _ => laidMetH Tryz.prog Rows.tileJoinsRow.laid w) (fun _ _ _ hh h => h.of_heap hh) prog_own started (by kernel_rfl) Tryz.func12
    (ChangeSpec.witness_shaped (enc := enc) (C := Tryz.checked) (os := os) (X := fun w _ => laidMetH Tryz.prog Rows.tileJoinsRow.laid w) false (World.doorLaid Tryz.prog 4000 os) #[.agg #[.bool false, .string ⟨#[]⟩, .int .i64 0, .bool false, .string ⟨#[]⟩, .int .i64 0, .int .i64 0, .int .i64 0, .int .i64 0, .int .i64 0, .int .i64 0], .slice none 0 0, .agg #[.int .i64 0, .int .i64 0, .int .i64 0, .int .i64 0, .slice none 0 0], .agg #[.int .i64 0, .int .i64 0, .int .i64 0, .int .i64 0]] 8 rfl (World.shaped_of_RefB (by kernel_rfl) (by kernel_rfl)) (by kernel_rfl) (by kernel_rfl) (by kernel_rfl) (TileJoins.door_met os _)) ?_
  intro W base args ds gs before hval0 hW _ hsz hL _
  have hval : ∀ (j : Nat) t v, Tryz.f12.params[j]? = some t → args[j]? = some v → Value.okWide Tryz.prog W .any base t v := hval0
  have hW' := hW
  obtain ⟨p, q, hA0, hV, rfl, hfz, hnd⟩ := hW
  have hA : DataW.TrodAll enc Tryz.prog W 0 (fun _ => true) true Tryz.f12.params.toList args.toList ds p := hA0
  rw [Tryz.params12] at hA hval
  obtain ⟨v0, vs0, d0, ds0, p0, q0, hargs, rfl, rfl, h0, r0⟩ := trodAll_cons hA
  obtain ⟨v1, vs1, d1, ds1, p1, q1, rfl, rfl, rfl, h1, r1⟩ := trodAll_cons r0
  obtain ⟨v2, vs2, d2, ds2, p2, q2, rfl, rfl, rfl, h2, r2⟩ := trodAll_cons r1
  obtain ⟨v3, vs3, d3, ds3, p3, q3, rfl, rfl, rfl, h3, r3⟩ := trodAll_cons r2
  obtain ⟨rfl, rfl, rfl⟩ := trodAll_nil r3
  obtain rfl : args = #[v0, v1, v2, v3] := by cases args; simp_all
  obtain ⟨rfl, rfl⟩ := trodVars_none hV
  have k0 := h0
  have lt0 : ∀ x ∈ p0, x.block < W.heap.size := by obtain ⟨m, hm⟩ := k0; exact DataW.trod_lt m _ _ _ hm
  have k1 := h1
  have lt1 : ∀ x ∈ p1, x.block < W.heap.size := by obtain ⟨m, hm⟩ := k1; exact DataW.trod_lt m _ _ _ hm
  have k2 := h2
  have lt2 : ∀ x ∈ p2, x.block < W.heap.size := by obtain ⟨m, hm⟩ := k2; exact DataW.trod_lt m _ _ _ hm
  have k3 := h3
  have lt3 : ∀ x ∈ p3, x.block < W.heap.size := by obtain ⟨m, hm⟩ := k3; exact DataW.trod_lt m _ _ _ hm
  obtain ⟨g0, HG0, rfl⟩ := open_grid (hval 0 31 _ rfl rfl) h0
  obtain ⟨Aq1, nq1, cq1, rfl⟩ := okWide_slice Tryz.underlying87 (hval 1 87 _ rfl rfl)
  obtain ⟨fu1, hf1⟩ := h1
  obtain ⟨A1, n1, c1, TS1, hv1, hnc1, hcm1, hl1, HT1, HB1, HZ1⟩ := open_tiles (v := .slice Aq1 nq1 cq1) (x := (d1, p1)) hf1 (tiles_reach hsz (j := 1) (by rw [Tryz.params12]; rfl) (by rfl))
  injection hv1 with hva1 hvb1 hvc1
  subst hva1 hvb1 hvc1
  obtain ⟨T2, AT2, nt2, ct2, rfl, HTA2, hrt2⟩ := open_tile (hval 2 56 _ rfl rfl) h2
  have HBT2 := tile_reach hsz (j := 2) (by rw [Tryz.params12]; rfl) (by rfl) hrt2
  obtain ⟨rx3, ry3, ra3, rd3, rfl, hrx3, hry3, hra3, hrd3⟩ := open_rect (hval 3 38 _ rfl rfl) h3
  refine (joins_any g0 Aq1 cq1 nq1 TS1 T2 AT2 nt2 ct2 rx3 ry3 ra3 rd3 W HG0 HT1 hl1 hnc1 HB1 HZ1 HTA2 HBT2 hrx3 hry3 hra3 hrd3 (hpBoth hL)).mono fun e W' ⟨he, bel⟩ => ?_
  subst he
  exact ⟨_, rfl, _, _, _, [], _, [], hW', trodAll_mk1 (shut_bool Tryz.underlying4 _), (trodAll_cons_mk (Below.trod prog_laidOut (by kernel_rfl) (of_decide_eq_true (by kernel_rfl)) k0 bel lt0) (trodAll_cons_mk (Below.trod prog_laidOut (by kernel_rfl) (of_decide_eq_true (by kernel_rfl)) k1 bel lt1) (trodAll_cons_mk (Below.trod prog_laidOut (by kernel_rfl) (of_decide_eq_true (by kernel_rfl)) k2 bel lt2) (trodAll_cons_mk (Below.trod prog_laidOut (by kernel_rfl) (of_decide_eq_true (by kernel_rfl)) k3 bel lt3) (trodAll_mk0))))), rfl, bel.frame _, fun h => by cases h⟩
theorem TileJoins.over : Rows.tileJoinsRow.holds Tryz.pinned (OpenSpec.ofChange Rows.tileJoinsSpec) :=
  OpenClaim.holds_of_wide 12 Tryz.f12 rfl rfl rfl rfl rfl rfl rfl ⟨rfl, rfl, rfl, rfl, rfl⟩ rfl rfl rfl rfl rfl TileJoins.named Tryz.func12 TileJoins.facts
    (of_decide_eq_true (by kernel_rfl)) (by unfold Func.isWrapper; first | (rw [if_pos (by decide +kernel)]; kernel_rfl) | (rw [if_neg (by decide +kernel)]; exact ⟨rfl, rfl⟩))
    (fun os started H enc _ => TileJoins.lifted os started H enc)
theorem tileJoins_proved : Rows.TileJoinsCardSaid :=
  Claim7.holds_tied_plain_at .later [] Rows.tileJoinsCard.laidKinds true Rows.tileJoinsCard.stood.harness true
    TileJoins.over (fun _ h => by cases h) TileJoins.wf (fun _ h => by cases h) tileJoins_row_tie rfl ⟨rfl, rfl⟩ prog_main rfl
    (fun f fn hf hfn => by
      obtain rfl : f = 12 := (Option.some.inj (TileJoins.named.symm.trans hf)).symm
      obtain rfl : fn = Tryz.f12 := (Option.some.inj (Tryz.func12.symm.trans hfn)).symm
      exact ⟨prog_looks.symm, fun j t ht => by
        rw [Tryz.params12] at ht
        rcases j with _ | _ | _ | _ | j
        · obtain rfl := Option.some.inj ht
          kernel_rfl
        · obtain rfl := Option.some.inj ht
          kernel_rfl
        · obtain rfl := Option.some.inj ht
          kernel_rfl
        · obtain rfl := Option.some.inj ht
          kernel_rfl
        · simp at ht⟩)
    TileJoins.goes
#print axioms tileJoins_proved
end Go.Proofs.YtneakieigiafpaaGreatDoor
