/- FltO, FltE, FltW: texts of one claim laid together. -/
import Derived.Laws.ComplexArith
import Derived.WalkKit
import Derived.Laws.Externs
import Derived.IntWalk
import Derived.Test.YtneakieigiafpaaGreatDoorRows
import Derived.Test.YtneakieigiafpaaGreatDoorMemX
import Derived.Deep.DeepCutAuto
/- Floats, complex numbers and balls where nothing is a NaN: what the program's float functions compute, by bits. -/
namespace Go.Proofs.YtneakieigiafpaaGreatDoor
open Go.RowKit

def SG : Nat := 9223372036854775808
def MAXF : Nat := 9218868437227405311
def ordN (x y : Nat) : Option Ordering := FloatKind.f64.format.order x y
def eq0 (x : Nat) : Bool := ordN x 0 == some .eq
def addO (x y : Nat) : Option Nat := floatBits .add .f64 x y
def subO (x y : Nat) : Option Nat := floatBits .sub .f64 x y
def mulO (x y : Nat) : Option Nat := floatBits .mul .f64 x y
def quoO (x y : Nat) : Option Nat := floatBits .quo .f64 x y
def absN (x : Nat) : Nat := x % SG
def negN (x : Nat) : Nat := Op.negFloat .f64 x
def posInf (x : Nat) : Bool := ordN x MAXF == some .gt
/-- A finite float: all that the program asks of one. -/
def finB (x : Nat) : Bool := (match subO x x with | some d => eq0 d | none => false) && ((ordN x x == some .eq) && (!posInf x && (!posInf (absN x) && decide (x < 18446744073709551616))))
structure Fin (x : Nat) : Prop where
  sub : ∃ d, floatBits .sub .f64 x x = some d ∧ (FloatKind.f64.format.order d 0 == some .eq) = true
  eq : FloatKind.f64.format.order x x = some .eq
  inf : (FloatKind.f64.format.order x 9218868437227405311 == some .gt) = false
  abs : (FloatKind.f64.format.order (absN x) 9218868437227405311 == some .gt) = false
  lt : x < 18446744073709551616
theorem finB_iff {x : Nat} (h : finB x = true) : Fin x := by
  unfold finB at h
  simp only [Bool.and_eq_true, Bool.not_eq_true', decide_eq_true_eq] at h
  obtain ⟨h1, h2, h3, h4, h5⟩ := h
  refine ⟨?_, eq_of_beq h2, h3, h4, h5⟩
  cases hd : subO x x with
  | none => rw [hd] at h1; cases h1
  | some d => rw [hd] at h1; exact ⟨d, hd, h1⟩
def upN (b : Nat) : Nat := if eq0 b then 1 else if b < SG then b + 1 else b - 1
def downN (b : Nat) : Nat := if eq0 b then SG + 1 else if b < SG then b - 1 else b + 1

/-! ### Radii -/
def plusO (x y : Nat) : Option Nat := if eq0 x then some y else if eq0 y then some x else do
  let s ← addO x y
  if finB s then some (upN s) else none
def timesO (x y : Nat) : Option Nat := if eq0 x || eq0 y then some 0 else do
  let s ← mulO x y
  if finB s then some (upN s) else none
def lessO (x y : Nat) : Option Nat := if eq0 y then some x else do
  let s ← subO x y
  if finB s then (if ordN (downN s) 0 == some .gt then some (downN s) else some 0) else none
def lostO (x y : Nat) : Option Nat := do
  let s ← addO x y
  if eq0 x || eq0 y || eq0 s then some 0 else do
    let t ← mulO (absN s) 4368491638549381120
    if finB t then some (upN t) else none

/-! ### Complex numbers -/
structure Co where
  re : Nat
  im : Nat
def Co.fin (z : Co) : Bool := finB z.re && finB z.im
def caddO (a b : Co) : Option Co := do
  let x ← addO a.re b.re
  let y ← addO a.im b.im
  some ⟨x, y⟩
def csubO (a b : Co) : Option Co := do
  let x ← subO a.re b.re
  let y ← subO a.im b.im
  some ⟨x, y⟩
def cnegN (a : Co) : Co := ⟨negN a.re, negN a.im⟩
def cmulO (a b : Co) : Option Co := do
  let p ← mulO a.re b.re
  let q ← mulO a.im b.im
  let x ← subO p q
  let r ← mulO a.re b.im
  let s ← mulO a.im b.re
  let y ← addO r s
  some ⟨x, y⟩
def czero (z : Co) : Bool := eq0 z.re && eq0 z.im
def lostBothO (a b : Co) : Option Nat := do
  let p ← lostO a.re b.re
  let q ← lostO a.im b.im
  plusO p q
def spoiltO (z w : Co) : Option Nat := if czero z || czero w then some 0 else do
  let ac ← mulO z.re w.re
  let bd ← mulO z.im w.im
  let one ← plusO (absN ac) (absN bd)
  let ad ← mulO z.re w.im
  let bc ← mulO z.im w.re
  let two ← plusO (absN ad) (absN bc)
  let s ← plusO one two
  let t ← mulO s 4377498837804122112
  if finB t then plusO (upN t) 16 else none
def sizesN (z : Co) : Nat × Nat := let p := absN z.re; let q := absN z.im
  if ordN p q == some .lt then (q, p) else (p, q)
/-- cplx.Hi of a number with one part 0. -/
def hiO (z : Co) : Option Nat := if z.fin then (if eq0 (sizesN z).2 then some (sizesN z).1 else none) else none

/-! ### Balls -/
structure Ba where
  c : Co
  r : Nat
def Ba.ok (b : Ba) : Bool := b.c.fin && finB b.r && decide (b.r < SG)
def toldO (c : Co) (r : Nat) : Option Ba := if c.fin && finB r then some ⟨c, r⟩ else none
def pointO (c : Co) : Option Ba := toldO c 0
def baddO (a b : Ba) : Option Ba := if a.ok && b.ok then do
  let c ← caddO a.c b.c
  let x ← plusO a.r b.r
  let y ← lostBothO a.c b.c
  let r ← plusO x y
  toldO c r
  else none
def bsubO (a b : Ba) : Option Ba := if a.ok && b.ok then do
  let c ← csubO a.c b.c
  let x ← plusO a.r b.r
  let y ← lostBothO a.c (cnegN b.c)
  let r ← plusO x y
  toldO c r
  else none
def bmulO (a b : Ba) : Option Ba := if a.ok && b.ok then do
  let h ← hiO a.c
  let k ← hiO b.c
  let x ← timesO h b.r
  let y ← timesO k a.r
  let one ← plusO x y
  let c ← cmulO a.c b.c
  let t ← timesO a.r b.r
  let s ← spoiltO a.c b.c
  let u ← plusO t s
  let r ← plusO one u
  toldO c r
  else none
def bhiO (a : Ba) : Option Nat := if a.ok then do
  let h ← hiO a.c
  plusO h a.r
  else none

/-! ### Polynomials, maps -/
def pointsO (p : List Co) : Option (List Ba) := p.mapM pointO
/-- From the highest coefficient down. -/
def hornO (b : Ba) : List Ba → Option Ba
  | [] => none
  | [c] => some c
  | c :: d :: l => do
    let s ← hornO b (d :: l)
    let m ← bmulO s b
    baddO m c
def onO (l : List Ba) (b : Ba) : Option Ba := if l.isEmpty then pointO ⟨0, 0⟩ else hornO b l
/-- The sums on the way. -/
theorem horn_way (b : Ba) : ∀ (l : List Ba) (r : Ba), hornO b l = some r → ∃ G : Nat → Ba, G 0 = r ∧ (∀ c, l[l.length - 1]? = some c → G (l.length - 1) = c) ∧ ∀ j c, j + 1 < l.length → l[j]? = some c → ∃ m, bmulO (G (j + 1)) b = some m ∧ baddO m c = some (G j)
  | [], _, h => by cases h
  | [c], r, h => by
    cases h
    exact ⟨fun _ => c, rfl, fun d hd => by simpa using hd, fun j d hj => by simp at hj⟩
  | c :: d :: l, r, h => by
    obtain ⟨s, hs, h⟩ := Option.bind_eq_some_iff.1 h
    obtain ⟨m, hm, h⟩ := Option.bind_eq_some_iff.1 h
    obtain ⟨G, g0, g1, g2⟩ := horn_way b (d :: l) s hs
    refine ⟨fun j => match j with | 0 => r | j + 1 => G j, rfl, fun e he => ?_, fun j e hj he => ?_⟩
    · exact g1 e (by simpa using he)
    · cases j with
      | zero =>
        simp at he
        subst he
        exact ⟨m, by rw [← g0] at hm; exact hm, h⟩
      | succ j => exact g2 j e (by simpa using hj) (by simpa using he)
def floatN (k : Nat) : Nat := floatOfInt .f64 k
def steepO : Nat → List Co → Option (List Ba)
  | _, [] => some []
  | k, c :: cs => do
    let x ← pointO ⟨floatN k, 0⟩
    let y ← pointO c
    let z ← bmulO x y
    let l ← steepO (k + 1) cs
    some (z :: l)
def polyOnO (p : List Co) (b : Ba) : Option Ba := do let l ← pointsO p; onO l b
def slopeOnO (p : List Co) (b : Ba) : Option Ba := do let l ← steepO 1 p.tail; onO l b
/-- ratmap.Both of a map whose Q is 1. -/
def bothO (p : List Co) (b : Ba) : Option (Ba × Ba) := if b.ok then do
  let u ← polyOnO p b
  let s ← slopeOnO p b
  some (u, s)
  else none
def stepO (p : List Co) (b s : Ba) : Option (Ba × Ba) := do
  let (u, by_) ← bothO p b
  let t ← bmulO by_ s
  some (u, t)
def ONE : Nat := 4607182418800017408
def afterO (p : List Co) : Nat → Ba → Ba → Option (Ba × Ba)
  | 0, b, s => some (b, s)
  | n + 1, b, s => do
    let (c, t) ← stepO p b s
    afterO p n c t
def contractsO (move slope : Ba) (r : Nat) : Option (Nat × Bool) := do
  let q ← bhiO slope
  if !finB r then none else
  if ordN r 0 == some .lt || ordN r 0 == some .eq || !(ordN q ONE == some .lt) then some (0, false) else do
    let h ← bhiO move
    let t ← timesO q r
    let s ← plusO h t
    if ordN s r == some .gt then some (0, false) else some (q, true)
/-- trap.Make of a map whose Q is 1, a finite ball of a radius that is not 0: the slope; none within: ErrTrap. -/
def makeO (p : List Co) (b : Ba) (n : Nat) : Option (Option Nat) := if b.ok && !eq0 b.r then do
  let one ← pointO ⟨ONE, 0⟩
  let x ← pointO b.c
  let (at_, _) ← afterO p n x one
  let (_, slope) ← afterO p n b one
  let y ← pointO b.c
  let move ← bsubO at_ y
  let (q, ok) ← contractsO move slope b.r
  some (if ok then some q else none)
  else none

/-! ### Exact numbers: n times 2 to the power e -/
def tzN : Nat → Nat → Nat
  | 0, _ => 0
  | f + 1, m => if m % 2 = 0 then tzN f (m / 2) + 1 else 0
def mantN (x : Nat) : Nat := if x / 4503599627370496 % 2048 = 0 then x % 4503599627370496 else x % 4503599627370496 + 4503599627370496
def expN (x : Nat) : Int := if x / 4503599627370496 % 2048 = 0 then -1074 else (x / 4503599627370496 % 2048 : Nat) - 1075
def sgnI (neg : Bool) (m : Nat) : Int := if neg then -(m : Int) else m
abbrev Nu := Int × Int
/-- ball.exact of a finite float. -/
def exactN (x : Nat) : Nu := if mantN x = 0 then (0, 0) else (sgnI (decide (SG ≤ x)) (mantN x / 2 ^ tzN 64 (mantN x)), expN x + tzN 64 (mantN x))
def nplus (a b : Nu) : Nu := if a.1 = 0 then b else if b.1 = 0 then a else
  if a.2 < b.2 then (b.1 * 2 ^ (b.2 - a.2).toNat + a.1, a.2) else (a.1 * 2 ^ (a.2 - b.2).toNat + b.1, b.2)
def nless (a b : Nu) : Nu := nplus a (-b.1, b.2)
def ntimes (a b : Nu) : Nu := (a.1 * b.1, a.2 + b.2)
def nfar (x y r : Nu) : Bool := if r.1 < 0 then true else decide (0 < (nless (nplus (ntimes x x) (ntimes y y)) (ntimes r r)).1)
/-- ball.Inside of finite balls. -/
def insideO (a b : Ba) : Option Bool := if a.ok && b.ok then
  some (if ordN a.r b.r == some .gt then false else
    !nfar (nless (exactN a.c.re) (exactN b.c.re)) (nless (exactN a.c.im) (exactN b.c.im)) (nless (exactN b.r) (exactN a.r)))
  else none
/-- trap.In of one ball that is a trap's: the step at which it is in. -/
def inO (p : List Co) (t : Ba) : Nat → Nat → Ba → Option (Option Nat)
  | 0, k, b => do
    let i ← insideO b t
    some (if i then some k else none)
  | n + 1, k, b => do
    let i ← insideO b t
    if i then some (some k) else do
      let (c, _) ← bothO p b
      inO p t n (k + 1) c
end Go.Proofs.YtneakieigiafpaaGreatDoor

/- math.Float64bits, Float64frombits, sqrt stand in the model in place of a body: their laws. -/
namespace Go.Proofs.YtneakieigiafpaaGreatDoor
open Go.RowKit

theorem run_f64bits (b : Nat) (w : World) : (callFunc 138 #[.float .f64 b]).run Tryz.prog w = .ok (.value (.int .u64 b)) w := by
  exact (Go.run_callFunc_extern (e := Extern.MathFloatBits.float64bits) Tryz.func138 (by kernel_rfl) (by kernel_rfl) (by kernel_rfl) (by kernel_rfl) _ w).trans rfl
theorem run_f64from (n : Int) (w : World) : (callFunc 172 #[.int .u64 n]).run Tryz.prog w = .ok (.value (.float .f64 n.toNat)) w := by
  exact (Go.run_callFunc_extern (e := Extern.MathFloatBits.float64frombits) Tryz.func172 (by kernel_rfl) (by kernel_rfl) (by kernel_rfl) (by kernel_rfl) _ w).trans rfl

theorem bits_and_nat {x y : Nat} (hx : x < 18446744073709551616) (hy : y < 18446744073709551616) : bits .and .u64 (x : Int) (y : Int) = ((x &&& y : Nat) : Int) := by
  have h1 : BitVec.ofInt 64 (x : Int) = BitVec.ofNat 64 x := by rw [BitVec.ofInt_natCast]
  have h2 : BitVec.ofInt 64 (y : Int) = BitVec.ofNat 64 y := by rw [BitVec.ofInt_natCast]
  have h3 : (BitVec.ofInt 64 (x : Int) &&& BitVec.ofInt 64 (y : Int)).toNat = x &&& y := by
    rw [h1, h2, BitVec.toNat_and, BitVec.toNat_ofNat, BitVec.toNat_ofNat, Nat.mod_eq_of_lt hx, Nat.mod_eq_of_lt hy]
  have h4 : x &&& y ≤ x := Nat.and_le_left
  show IntKind.u64.wrap (((BitVec.ofInt 64 (x : Int) &&& BitVec.ofInt 64 (y : Int)).toNat : Nat) : Int) = _
  rw [h3]
  exact IntWalk.u64_in _ (by omega)
theorem land_sign {x : Nat} (hx : x < 18446744073709551616) : x &&& 2 ^ 63 = if x < SG then 0 else 2 ^ 63 := by
  refine Nat.eq_of_testBit_eq fun i => ?_
  rw [Nat.testBit_and, Nat.testBit_two_pow]
  by_cases hi : 63 = i
  · subst hi
    by_cases h : x < SG
    · rw [if_pos h, Nat.testBit_lt_two_pow (show x < 2 ^ 63 from h)]; simp
    · rw [if_neg h]
      have h1 : x / 2 ^ 63 < 2 := Nat.div_lt_of_lt_mul (by omega)
      have h2 : 1 ≤ x / 2 ^ 63 := (Nat.le_div_iff_mul_le (by decide)).2 (by unfold SG at h; omega)
      have h3 : x / 2 ^ 63 = 1 := by omega
      rw [Nat.testBit_eq_decide_div_mod_eq, h3]; decide
  · by_cases h : x < SG
    · simp [h, hi]
    · rw [if_neg h, Nat.testBit_two_pow]; simp [hi]
theorem bits_sign {x : Nat} (hx : x < 18446744073709551616) : bits .and .u64 (x : Int) 9223372036854775808 = if x < SG then 0 else 9223372036854775808 := by
  rw [show (9223372036854775808 : Int) = ((2 ^ 63 : Nat) : Int) by decide, bits_and_nat hx (by decide), land_sign hx]
  split <;> rfl
theorem bits_abs {x : Nat} (hx : x < 18446744073709551616) : bits .andNot .u64 (x : Int) 9223372036854775808 = ((absN x : Nat) : Int) := by
  have h1 : BitVec.ofInt 64 (x : Int) = BitVec.ofNat 64 x := by rw [BitVec.ofInt_natCast]
  have h3 : (BitVec.ofInt 64 (x : Int) &&& ~~~(BitVec.ofInt 64 9223372036854775808)).toNat = absN x := by
    have h5 : ~~~(BitVec.ofInt 64 9223372036854775808) = BitVec.ofNat 64 (2 ^ 63 - 1) := by decide
    rw [h1, h5, BitVec.toNat_and, BitVec.toNat_ofNat, BitVec.toNat_ofNat, Nat.mod_eq_of_lt hx, Nat.mod_eq_of_lt (by decide), Nat.and_two_pow_sub_one_eq_mod]
    rfl
  have h4 : absN x ≤ x := Nat.mod_le _ _
  show IntKind.u64.wrap (((BitVec.ofInt 64 (x : Int) &&& ~~~(BitVec.ofInt 64 9223372036854775808)).toNat : Nat) : Int) = _
  rw [h3]
  exact IntWalk.u64_in _ (by omega)
theorem floatBits_lt {op : BinOp} {x y r : Nat} (h : floatBits op .f64 x y = some r) : r < 18446744073709551616 := by
  have := floatBits_wf h
  simpa [Lit.wf] using this
theorem run_neg_float {P : Program} (x : Nat) (w : World) : (Op.unary .neg (.float .f64 x)).run P w = .ok (.float .f64 (negN x)) w := rfl
theorem run_store_float {P : Program} {w : World} {a : Addr} {m : Mode} (k : FloatKind) (b : Nat) : (store a (.float k b) m).run P w = stored P w a (.float k b) m := run_store P w a _ m rfl
theorem run_store_complex {P : Program} {w : World} {a : Addr} {m : Mode} (k : FloatKind) (b c : Nat) : (store a (.complex k b c) m).run P w = stored P w a (.complex k b c) m := run_store P w a _ m rfl
end Go.Proofs.YtneakieigiafpaaGreatDoor

/- Floats walked: bits.Finite, bits.Up, bits.Down; radii: ball.plus, times, less, lost. -/
namespace Go.Proofs.YtneakieigiafpaaGreatDoor
open Go.RowKit
attribute [local go_sem] run_float_arith run_f64bits run_f64from run_neg_float run_store_float run_store_complex


set_option maxRecDepth 100000 in
set_option maxHeartbeats 400000 in
theorem finite_any (x : Nat) (h : finB x = true) (w : World) : Calls Tryz.prog 164 #[.float .f64 x] w fun e w' => e = .returned (.bool true) ∧ w = w' := by
  obtain ⟨d, hd, h⟩ := (finB_iff h).sub
  go_enter Tryz.func164, Tryz.ntmps164
  go_wp2
  go_ret
  exact ⟨rfl, rfl⟩
set_option maxRecDepth 100000 in
set_option maxHeartbeats 400000 in
theorem isinf_any (x : Nat) (w : World) : Calls Tryz.prog 143 #[.float .f64 x, .int .i64 1] w fun e w' => e = .returned (.bool (posInf x)) ∧ w = w' := by
  unfold posInf ordN MAXF
  cases h : (FloatKind.f64.format.order x 9218868437227405311 == some .gt) <;>
  · go_enter Tryz.func143, Tryz.ntmps143
    go_wp2
    go_ret
    exact ⟨rfl, rfl⟩
set_option maxRecDepth 100000 in
set_option maxHeartbeats 400000 in
theorem up_any (x : Nat) (h : finB x = true) (w : World) : Calls Tryz.prog 140 #[.float .f64 x] w fun e w' => e = .returned (.float .f64 (upN x)) ∧ w = w' := by
  have hE := (finB_iff h).eq
  have hI := (finB_iff h).inf
  have hL := (finB_iff h).lt
  have hB := bits_sign hL
  clear h
  unfold upN
  cases h0 : eq0 x with
  | true =>
    change (FloatKind.f64.format.order x 0 == some .eq) = true at h0
    go_enter Tryz.func140, Tryz.ntmps140
    go_wp2
    go_ret
    exact ⟨rfl, rfl⟩
  | false =>
    change (FloatKind.f64.format.order x 0 == some .eq) = false at h0
    by_cases hs : x < SG
    · rw [if_pos hs] at hB
      rw [if_pos hs]
      have hW : IntKind.u64.wrap ((x : Int) + 1) = (x : Int) + 1 := IntWalk.u64_in _ (by unfold SG at hs; omega)
      have hN : ((x : Int) + 1).toNat = x + 1 := by omega
      clear hs hL
      go_enter Tryz.func140, Tryz.ntmps140
      go_wp2
      go_ret
      exact ⟨rfl, rfl⟩
    · rw [if_neg hs] at hB
      rw [if_neg hs]
      have hW : IntKind.u64.wrap ((x : Int) - 1) = (x : Int) - 1 := IntWalk.u64_in _ (by unfold SG at hs; omega)
      have hN : ((x : Int) - 1).toNat = x - 1 := by omega
      clear hs hL
      go_enter Tryz.func140, Tryz.ntmps140
      go_wp2
      go_ret
      exact ⟨rfl, rfl⟩
set_option maxRecDepth 100000 in
set_option maxHeartbeats 400000 in
theorem abs_any (x : Nat) (h : x < 18446744073709551616) (w : World) : Calls Tryz.prog 210 #[.float .f64 x] w fun e w' => e = .returned (.float .f64 (absN x)) ∧ w = w' := by
  have hB := bits_abs h
  clear h
  go_enter Tryz.func210, Tryz.ntmps210
  go_wp2
  go_ret
  exact ⟨rfl, rfl⟩
set_option maxRecDepth 100000 in
set_option maxHeartbeats 400000 in
theorem plus_any (x y r : Nat) (h : plusO x y = some r) (w : World) : Calls Tryz.prog 222 #[.float .f64 x, .float .f64 y] w fun e w' => e = .returned (.float .f64 r) ∧ w = w' := by
  have CU := hide up_any
  unfold plusO at h
  cases h0 : eq0 x with
  | true =>
    rw [h0, if_pos rfl] at h
    cases h
    change (FloatKind.f64.format.order x 0 == some .eq) = true at h0
    go_enter Tryz.func222, Tryz.ntmps222
    go_wp2
    go_ret
    exact ⟨rfl, rfl⟩
  | false =>
    rw [h0, if_neg (by decide)] at h
    change (FloatKind.f64.format.order x 0 == some .eq) = false at h0
    cases h1 : eq0 y with
    | true =>
      rw [h1, if_pos rfl] at h
      cases h
      change (FloatKind.f64.format.order y 0 == some .eq) = true at h1
      go_enter Tryz.func222, Tryz.ntmps222
      go_wp2
      go_ret
      exact ⟨rfl, rfl⟩
    | false =>
      rw [h1, if_neg (by decide)] at h
      change (FloatKind.f64.format.order y 0 == some .eq) = false at h1
      obtain ⟨s, hs, h⟩ := Option.bind_eq_some_iff.1 h
      change floatBits .add .f64 x y = some s at hs
      split at h
      · rename_i hf
        cases h
        have CV := hide (fun W => CU.out s hf W)
        clear hf CU
        go_enter Tryz.func222, Tryz.ntmps222
        go_wp2_with (go_at_call 140; refine (CV.out _).mono ?_; rintro e w1 ⟨rfl, rfl⟩)
        go_ret
        exact ⟨rfl, rfl⟩
      · cases h
set_option maxRecDepth 100000 in
set_option maxHeartbeats 400000 in
theorem times_any (x y r : Nat) (h : timesO x y = some r) (w : World) : Calls Tryz.prog 223 #[.float .f64 x, .float .f64 y] w fun e w' => e = .returned (.float .f64 r) ∧ w = w' := by
  have CU := hide up_any
  unfold timesO at h
  cases h0 : eq0 x with
  | true =>
    rw [h0, Bool.true_or, if_pos rfl] at h
    cases h
    change (FloatKind.f64.format.order x 0 == some .eq) = true at h0
    go_enter Tryz.func223, Tryz.ntmps223
    go_wp2
    go_ret
    exact ⟨rfl, rfl⟩
  | false =>
    cases h1 : eq0 y with
    | true =>
      rw [h1, Bool.or_true, if_pos rfl] at h
      cases h
      change (FloatKind.f64.format.order x 0 == some .eq) = false at h0
      change (FloatKind.f64.format.order y 0 == some .eq) = true at h1
      go_enter Tryz.func223, Tryz.ntmps223
      go_wp2
      go_ret
      exact ⟨rfl, rfl⟩
    | false =>
      rw [h0, h1, if_neg (by decide)] at h
      change (FloatKind.f64.format.order x 0 == some .eq) = false at h0
      change (FloatKind.f64.format.order y 0 == some .eq) = false at h1
      obtain ⟨s, hs, h⟩ := Option.bind_eq_some_iff.1 h
      change floatBits .mul .f64 x y = some s at hs
      split at h
      · rename_i hf
        cases h
        have CV := hide (fun W => CU.out s hf W)
        clear hf CU
        go_enter Tryz.func223, Tryz.ntmps223
        go_wp2_with (go_at_call 140; refine (CV.out _).mono ?_; rintro e w1 ⟨rfl, rfl⟩)
        go_ret
        exact ⟨rfl, rfl⟩
      · cases h
end Go.Proofs.YtneakieigiafpaaGreatDoor
