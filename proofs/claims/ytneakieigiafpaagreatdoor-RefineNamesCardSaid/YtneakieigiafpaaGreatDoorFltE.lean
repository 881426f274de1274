/- math.Float64bits, Float64frombits, sqrt stand in the model in place of a body: their laws. -/
import Derived.Test.YtneakieigiafpaaGreatDoorFltO
import Derived.Laws.Externs
import Derived.IntWalk
import Derived.Test.YtneakieigiafpaaGreatDoorRows
namespace Go.Proofs.YtneakieigiafpaaGreatDoor
open Go.RowKit

theorem run_f64bits (b : Nat) (w : World) : (callFunc 138 #[.float .f64 b]).run Tryz.prog w = .ok (.value (.int .u64 b)) w := by
  exact (Go.run_callFunc_extern (e := Extern.MathFloatBits.float64bits) Tryz.func138 (by kernel_rfl) (by kernel_rfl) (by kernel_rfl) (by kernel_rfl) _ w).trans rfl
theorem run_f64from (n : Int) (w : World) : (callFunc 172 #[.int .u64 n]).run Tryz.prog w = .ok (.value (.float .f64 n.toNat)) w := by
  exact (Go.run_callFunc_extern (e := Extern.MathFloatBits.float64frombits) Tryz.func172 (by kernel_rfl) (by kernel_rfl) (by kernel_rfl) (by kernel_rfl) _ w).trans rfl

theorem bits_and_nat {x y : Nat} (hx : x < 18446744073709551616) (hy : y < 18446744073709551616) : bits .and .u64 (x : Int) (y : Int) = ((x &&& y : Nat) : Int) := by
  have h1 : BitVec.ofInt 64 (x : Int) = BitVec.ofNat 64 x := by rw [BitVec.ofInt_natCast]
  have h2 : BitVec.ofInt 64 (y : Int) = BitVec.ofNat 64 y := by rw [BitVec.ofInt_natCast]
  have h3 : (BitVec.ofInt 64 (x : Int) &&& BitVec.ofInt 64 (y : Int)).toNat = x &&& y := by
    rw [h1, h2, BitVec.toNat_and, BitVec.toNat_ofNat, BitVec.toNat_ofNat, Nat.mod_eq_of_lt hx, Nat.mod_eq_of_lt hy]
  have h4 : x &&& y ≤ x := Nat.and_le_left
  show IntKind.u64.wrap (((BitVec.ofInt 64 (x : Int) &&& BitVec.ofInt 64 (y : Int)).toNat : Nat) : Int) = _
  rw [h3]
  exact IntWalk.u64_in _ (by omega)
theorem land_sign {x : Nat} (hx : x < 18446744073709551616) : x &&& 2 ^ 63 = if x < SG then 0 else 2 ^ 63 := by
  refine Nat.eq_of_testBit_eq fun i => ?_
  rw [Nat.testBit_and, Nat.testBit_two_pow]
  by_cases hi : 63 = i
  · subst hi
    by_cases h : x < SG
    · rw [if_pos h, Nat.testBit_lt_two_pow (show x < 2 ^ 63 from h)]; simp
    · rw [if_neg h]
      have h1 : x / 2 ^ 63 < 2 := Nat.div_lt_of_lt_mul (by omega)
      have h2 : 1 ≤ x / 2 ^ 63 := (Nat.le_div_iff_mul_le (by decide)).2 (by unfold SG at h; omega)
      have h3 : x / 2 ^ 63 = 1 := by omega
      rw [Nat.testBit_eq_decide_div_mod_eq, h3]; decide
  · by_cases h : x < SG
    · simp [h, hi]
    · rw [if_neg h, Nat.testBit_two_pow]; simp [hi]
theorem bits_sign {x : Nat} (hx : x < 18446744073709551616) : bits .and .u64 (x : Int) 9223372036854775808 = if x < SG then 0 else 9223372036854775808 := by
  rw [show (9223372036854775808 : Int) = ((2 ^ 63 : Nat) : Int) by decide, bits_and_nat hx (by decide), land_sign hx]
  split <;> rfl
theorem bits_abs {x : Nat} (hx : x < 18446744073709551616) : bits .andNot .u64 (x : Int) 9223372036854775808 = ((absN x : Nat) : Int) := by
  have h1 : BitVec.ofInt 64 (x : Int) = BitVec.ofNat 64 x := by rw [BitVec.ofInt_natCast]
  have h3 : (BitVec.ofInt 64 (x : Int) &&& ~~~(BitVec.ofInt 64 9223372036854775808)).toNat = absN x := by
    have h5 : ~~~(BitVec.ofInt 64 9223372036854775808) = BitVec.ofNat 64 (2 ^ 63 - 1) := by decide
    rw [h1, h5, BitVec.toNat_and, BitVec.toNat_ofNat, BitVec.toNat_ofNat, Nat.mod_eq_of_lt hx, Nat.mod_eq_of_lt (by decide), Nat.and_two_pow_sub_one_eq_mod]
    rfl
  have h4 : absN x ≤ x := Nat.mod_le _ _
  show IntKind.u64.wrap (((BitVec.ofInt 64 (x : Int) &&& ~~~(BitVec.ofInt 64 9223372036854775808)).toNat : Nat) : Int) = _
  rw [h3]
  exact IntWalk.u64_in _ (by omega)
theorem floatBits_lt {op : BinOp} {x y r : Nat} (h : floatBits op .f64 x y = some r) : r < 18446744073709551616 := by
  have := floatBits_wf h
  simpa [Lit.wf] using this
theorem run_neg_float {P : Program} (x : Nat) (w : World) : (Op.unary .neg (.float .f64 x)).run P w = .ok (.float .f64 (negN x)) w := rfl
theorem run_store_float {P : Program} {w : World} {a : Addr} {m : Mode} (k : FloatKind) (b : Nat) : (store a (.float k b) m).run P w = stored P w a (.float k b) m := run_store P w a _ m rfl
theorem run_store_complex {P : Program} {w : World} {a : Addr} {m : Mode} (k : FloatKind) (b c : Nat) : (store a (.complex k b c) m).run P w = stored P w a (.complex k b c) m := run_store P w a _ m rfl
end Go.Proofs.YtneakieigiafpaaGreatDoor
