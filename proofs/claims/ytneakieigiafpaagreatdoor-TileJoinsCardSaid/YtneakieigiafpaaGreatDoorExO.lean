/- The runner over this program: the three functions that stand in the model in place of a body; the tables that are laid. -/
import Derived.Test.YtneakieigiafpaaGreatDoorExN
import Derived.Laws.Externs
import Derived.Test.YtneakieigiafpaaGreatDoorProg
namespace Go.Proofs.YtneakieigiafpaaGreatDoor
open Go.Ex Go.RowKit
set_option maxRecDepth 100000

noncomputable def ext1 (e : Array Value → Sem Value) (args : List SV) : Option SV := bindO (flats args) fun us => pureOp Tryz.prog (e us.toArray)
noncomputable def ora (f : Nat) (args : List SV) (_ : List Hp) : Option SV := ifB (Nat.beq f 138) (ext1 Extern.MathFloatBits.float64bits args) (ifB (Nat.beq f 172) (ext1 Extern.MathFloatBits.float64frombits args) (ifB (Nat.beq f 279) (ext1 Extern.MathSqrt.sqrt args) none))
theorem ext1_ok {e : Array Value → Sem Value} {f : Nat} {args : List SV} {v : SV} (h : ext1 e args = some v) (hf : ∀ (a : Array Value) (w : World), (callFunc f a).run Tryz.prog w = ((e a).run Tryz.prog w).andThen fun v w' => .ok (.value v) w') :
    (∀ n, Sc n v) ∧ ∀ ρ w, SemVal Tryz.prog ((callFunc f (args.map (SV.conc ρ)).toArray).run Tryz.prog w) fun u w' => u = v.conc ρ ∧ Below w.heap.size w w' := by
  obtain ⟨us, hus, h⟩ := bindO_eq.1 h
  obtain ⟨y, rfl, hy⟩ := pureOp_eq h
  refine ⟨fun n => Sc.v n y, fun ρ w => ?_⟩
  rw [hf, flats_conc hus ρ, hy w]
  exact ⟨(conc_v _ _).symm, Below.refl _ _⟩
theorem ora0_ok {f : Nat} {args : List SV} {heap : List Hp} {v : SV} (h : ora f args heap = some v) : (∀ n, Sc n v) ∧ ∀ ρ w, SemVal Tryz.prog ((callFunc f (args.map (SV.conc ρ)).toArray).run Tryz.prog w) fun u w' => u = v.conc ρ ∧ Below w.heap.size w w' := by
  unfold ora at h
  rcases beq_dec f 138 with ⟨e, rfl⟩ | ⟨e, -⟩
  · rw [e, ifB_true] at h
    exact ext1_ok h fun a w => Go.run_callFunc_extern (e := Extern.MathFloatBits.float64bits) Tryz.func138 (by kernel_rfl) (by kernel_rfl) (by kernel_rfl) (by kernel_rfl) a w
  · rw [e, ifB_false] at h
    rcases beq_dec f 172 with ⟨e, rfl⟩ | ⟨e, -⟩
    · rw [e, ifB_true] at h
      exact ext1_ok h fun a w => Go.run_callFunc_extern (e := Extern.MathFloatBits.float64frombits) Tryz.func172 (by kernel_rfl) (by kernel_rfl) (by kernel_rfl) (by kernel_rfl) a w
    · rw [e, ifB_false] at h
      rcases beq_dec f 279 with ⟨e, rfl⟩ | ⟨e, -⟩
      · rw [e, ifB_true] at h
        exact ext1_ok h fun a w => Go.run_callFunc_extern (e := Extern.MathSqrt.sqrt) Tryz.func279 (by kernel_rfl) (by kernel_rfl) (by kernel_rfl) (by kernel_rfl) a w
      · rw [e, ifB_false] at h
        cases h
def tab64 : List SV := [0, 1, 56, 2, 57, 49, 28, 3, 61, 58, 42, 50, 38, 29, 17, 4, 62, 47, 59, 36, 45, 43, 51, 22, 53, 39, 33, 30, 24, 18, 12, 5, 63, 55, 48, 27, 60, 41, 37, 16, 46, 35, 44, 21, 52, 32, 23, 11, 54, 26, 40, 15, 34, 20, 31, 10, 25, 14, 19, 9, 13, 8, 7, 6].map fun n : Nat => .v (.int .u8 (.ofNat n))
def tab32 : List SV := [0, 1, 28, 2, 29, 14, 24, 3, 30, 22, 20, 15, 25, 17, 4, 8, 31, 27, 13, 23, 21, 19, 16, 7, 26, 12, 18, 6, 11, 5, 10, 9].map fun n : Nat => .v (.int .u8 (.ofNat n))
/-- The laid tables (the later name first). -/
def laidH : List Hp := [⟨2, ⟨tab32, 0⟩⟩, ⟨1, ⟨tab64, 0⟩⟩]
def saysTrue (x : Option SV) : Bool := match x with
  | some (.v (.bool b)) => b
  | _ => false
end Go.Proofs.YtneakieigiafpaaGreatDoor
