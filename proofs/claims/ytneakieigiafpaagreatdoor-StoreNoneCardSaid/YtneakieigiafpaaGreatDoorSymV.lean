/- Struct values of a frame whose cells are values without addresses that the runner knows. -/
import Derived.Test.YtneakieigiafpaaGreatDoorExN
namespace Go.Proofs.YtneakieigiafpaaGreatDoor
open Go.Ex
noncomputable def aggV (l : List Value) : SV := .agg (valsOf l)
theorem aggV_conc (l : List Value) (ρ : Va) : (aggV l).conc ρ = .agg l.toArray := by
  unfold aggV
  rw [conc_agg, valsOf_eq]
  simp [Function.comp_def, conc_v]
theorem aggV_sc (l : List Value) (n : Nat) : Sc n (aggV l) := Sc.agg fun x hx => by
  rw [valsOf_eq] at hx
  obtain ⟨v, -, rfl⟩ := List.mem_map.1 hx
  exact Sc.v _ _
end Go.Proofs.YtneakieigiafpaaGreatDoor
