/- Floats, complex numbers and balls where nothing is a NaN: what the program's float functions compute, by bits. -/
import Derived.Laws.ComplexArith
import Derived.WalkKit
namespace Go.Proofs.YtneakieigiafpaaGreatDoor
open Go.RowKit

def SG : Nat := 9223372036854775808
def MAXF : Nat := 9218868437227405311
def ordN (x y : Nat) : Option Ordering := FloatKind.f64.format.order x y
def eq0 (x : Nat) : Bool := ordN x 0 == some .eq
def addO (x y : Nat) : Option Nat := floatBits .add .f64 x y
def subO (x y : Nat) : Option Nat := floatBits .sub .f64 x y
def mulO (x y : Nat) : Option Nat := floatBits .mul .f64 x y
def quoO (x y : Nat) : Option Nat := floatBits .quo .f64 x y
def absN (x : Nat) : Nat := x % SG
def negN (x : Nat) : Nat := Op.negFloat .f64 x
def posInf (x : Nat) : Bool := ordN x MAXF == some .gt
/-- A finite float: all that the program asks of one. -/
def finB (x : Nat) : Bool := (match subO x x with | some d => eq0 d | none => false) && ((ordN x x == some .eq) && (!posInf x && (!posInf (absN x) && decide (x < 18446744073709551616))))
structure Fin (x : Nat) : Prop where
  sub : ∃ d, floatBits .sub .f64 x x = some d ∧ (FloatKind.f64.format.order d 0 == some .eq) = true
  eq : FloatKind.f64.format.order x x = some .eq
  inf : (FloatKind.f64.format.order x 9218868437227405311 == some .gt) = false
  abs : (FloatKind.f64.format.order (absN x) 9218868437227405311 == some .gt) = false
  lt : x < 18446744073709551616
theorem finB_iff {x : Nat} (h : finB x = true) : Fin x := by
  unfold finB at h
  simp only [Bool.and_eq_true, Bool.not_eq_true', decide_eq_true_eq] at h
  obtain ⟨h1, h2, h3, h4, h5⟩ := h
  refine ⟨?_, eq_of_beq h2, h3, h4, h5⟩
  cases hd : subO x x with
  | none => rw [hd] at h1; cases h1
  | some d => rw [hd] at h1; exact ⟨d, hd, h1⟩
def upN (b : Nat) : Nat := if eq0 b then 1 else if b < SG then b + 1 else b - 1
def downN (b : Nat) : Nat := if eq0 b then SG + 1 else if b < SG then b - 1 else b + 1

/-! ### Radii -/
def plusO (x y : Nat) : Option Nat := if eq0 x then some y else if eq0 y then some x else do
  let s ← addO x y
  if finB s then some (upN s) else none
def timesO (x y : Nat) : Option Nat := if eq0 x || eq0 y then some 0 else do
  let s ← mulO x y
  if finB s then some (upN s) else none
def lessO (x y : Nat) : Option Nat := if eq0 y then some x else do
  let s ← subO x y
  if finB s then (if ordN (downN s) 0 == some .gt then some (downN s) else some 0) else none
def lostO (x y : Nat) : Option Nat := do
  let s ← addO x y
  if eq0 x || eq0 y || eq0 s then some 0 else do
    let t ← mulO (absN s) 4368491638549381120
    if finB t then some (upN t) else none

/-! ### Complex numbers -/
structure Co where
  re : Nat
  im : Nat
def Co.fin (z : Co) : Bool := finB z.re && finB z.im
def caddO (a b : Co) : Option Co := do
  let x ← addO a.re b.re
  let y ← addO a.im b.im
  some ⟨x, y⟩
def csubO (a b : Co) : Option Co := do
  let x ← subO a.re b.re
  let y ← subO a.im b.im
  some ⟨x, y⟩
def cnegN (a : Co) : Co := ⟨negN a.re, negN a.im⟩
def cmulO (a b : Co) : Option Co := do
  let p ← mulO a.re b.re
  let q ← mulO a.im b.im
  let x ← subO p q
  let r ← mulO a.re b.im
  let s ← mulO a.im b.re
  let y ← addO r s
  some ⟨x, y⟩
def czero (z : Co) : Bool := eq0 z.re && eq0 z.im
def lostBothO (a b : Co) : Option Nat := do
  let p ← lostO a.re b.re
  let q ← lostO a.im b.im
  plusO p q
def spoiltO (z w : Co) : Option Nat := if czero z || czero w then some 0 else do
  let ac ← mulO z.re w.re
  let bd ← mulO z.im w.im
  let one ← plusO (absN ac) (absN bd)
  let ad ← mulO z.re w.im
  let bc ← mulO z.im w.re
  let two ← plusO (absN ad) (absN bc)
  let s ← plusO one two
  let t ← mulO s 4377498837804122112
  if finB t then plusO (upN t) 16 else none
def sizesN (z : Co) : Nat × Nat := let p := absN z.re; let q := absN z.im
  if ordN p q == some .lt then (q, p) else (p, q)
/-- cplx.Hi of a number with one part 0. -/
def hiO (z : Co) : Option Nat := if z.fin then (if eq0 (sizesN z).2 then some (sizesN z).1 else none) else none

/-! ### Balls -/
structure Ba where
  c : Co
  r : Nat
def Ba.ok (b : Ba) : Bool := b.c.fin && finB b.r && decide (b.r < SG)
def toldO (c : Co) (r : Nat) : Option Ba := if c.fin && finB r then some ⟨c, r⟩ else none
def pointO (c : Co) : Option Ba := toldO c 0
def baddO (a b : Ba) : Option Ba := if a.ok && b.ok then do
  let c ← caddO a.c b.c
  let x ← plusO a.r b.r
  let y ← lostBothO a.c b.c
  let r ← plusO x y
  toldO c r
  else none
def bsubO (a b : Ba) : Option Ba := if a.ok && b.ok then do
  let c ← csubO a.c b.c
  let x ← plusO a.r b.r
  let y ← lostBothO a.c (cnegN b.c)
  let r ← plusO x y
  toldO c r
  else none
def bmulO (a b : Ba) : Option Ba := if a.ok && b.ok then do
  let h ← hiO a.c
  let k ← hiO b.c
  let x ← timesO h b.r
  let y ← timesO k a.r
  let one ← plusO x y
  let c ← cmulO a.c b.c
  let t ← timesO a.r b.r
  let s ← spoiltO a.c b.c
  let u ← plusO t s
  let r ← plusO one u
  toldO c r
  else none
def bhiO (a : Ba) : Option Nat := if a.ok then do
  let h ← hiO a.c
  plusO h a.r
  else none

/-! ### Polynomials, maps -/
def pointsO (p : List Co) : Option (List Ba) := p.mapM pointO
/-- From the highest coefficient down. -/
def hornO (b : Ba) : List Ba → Option Ba
  | [] => none
  | [c] => some c
  | c :: d :: l => do
    let s ← hornO b (d :: l)
    let m ← bmulO s b
    baddO m c
def onO (l : List Ba) (b : Ba) : Option Ba := if l.isEmpty then pointO ⟨0, 0⟩ else hornO b l
/-- The sums on the way. -/
theorem horn_way (b : Ba) : ∀ (l : List Ba) (r : Ba), hornO b l = some r → ∃ G : Nat → Ba, G 0 = r ∧ (∀ c, l[l.length - 1]? = some c → G (l.length - 1) = c) ∧ ∀ j c, j + 1 < l.length → l[j]? = some c → ∃ m, bmulO (G (j + 1)) b = some m ∧ baddO m c = some (G j)
  | [], _, h => by cases h
  | [c], r, h => by
    cases h
    exact ⟨fun _ => c, rfl, fun d hd => by simpa using hd, fun j d hj => by simp at hj⟩
  | c :: d :: l, r, h => by
    obtain ⟨s, hs, h⟩ := Option.bind_eq_some_iff.1 h
    obtain ⟨m, hm, h⟩ := Option.bind_eq_some_iff.1 h
    obtain ⟨G, g0, g1, g2⟩ := horn_way b (d :: l) s hs
    refine ⟨fun j => match j with | 0 => r | j + 1 => G j, rfl, fun e he => ?_, fun j e hj he => ?_⟩
    · exact g1 e (by simpa using he)
    · cases j with
      | zero =>
        simp at he
        subst he
        exact ⟨m, by rw [← g0] at hm; exact hm, h⟩
      | succ j => exact g2 j e (by simpa using hj) (by simpa using he)
def floatN (k : Nat) : Nat := floatOfInt .f64 k
def steepO : Nat → List Co → Option (List Ba)
  | _, [] => some []
  | k, c :: cs => do
    let x ← pointO ⟨floatN k, 0⟩
    let y ← pointO c
    let z ← bmulO x y
    let l ← steepO (k + 1) cs
    some (z :: l)
def polyOnO (p : List Co) (b : Ba) : Option Ba := do let l ← pointsO p; onO l b
def slopeOnO (p : List Co) (b : Ba) : Option Ba := do let l ← steepO 1 p.tail; onO l b
/-- ratmap.Both of a map whose Q is 1. -/
def bothO (p : List Co) (b : Ba) : Option (Ba × Ba) := if b.ok then do
  let u ← polyOnO p b
  let s ← slopeOnO p b
  some (u, s)
  else none
def stepO (p : List Co) (b s : Ba) : Option (Ba × Ba) := do
  let (u, by_) ← bothO p b
  let t ← bmulO by_ s
  some (u, t)
def ONE : Nat := 4607182418800017408
def afterO (p : List Co) : Nat → Ba → Ba → Option (Ba × Ba)
  | 0, b, s => some (b, s)
  | n + 1, b, s => do
    let (c, t) ← stepO p b s
    afterO p n c t
def contractsO (move slope : Ba) (r : Nat) : Option (Nat × Bool) := do
  let q ← bhiO slope
  if !finB r then none else
  if ordN r 0 == some .lt || ordN r 0 == some .eq || !(ordN q ONE == some .lt) then some (0, false) else do
    let h ← bhiO move
    let t ← timesO q r
    let s ← plusO h t
    if ordN s r == some .gt then some (0, false) else some (q, true)
/-- trap.Make of a map whose Q is 1, a finite ball of a radius that is not 0: the slope; none within: ErrTrap. -/
def makeO (p : List Co) (b : Ba) (n : Nat) : Option (Option Nat) := if b.ok && !eq0 b.r then do
  let one ← pointO ⟨ONE, 0⟩
  let x ← pointO b.c
  let (at_, _) ← afterO p n x one
  let (_, slope) ← afterO p n b one
  let y ← pointO b.c
  let move ← bsubO at_ y
  let (q, ok) ← contractsO move slope b.r
  some (if ok then some q else none)
  else none

/-! ### Exact numbers: n times 2 to the power e -/
def tzN : Nat → Nat → Nat
  | 0, _ => 0
  | f + 1, m => if m % 2 = 0 then tzN f (m / 2) + 1 else 0
def mantN (x : Nat) : Nat := if x / 4503599627370496 % 2048 = 0 then x % 4503599627370496 else x % 4503599627370496 + 4503599627370496
def expN (x : Nat) : Int := if x / 4503599627370496 % 2048 = 0 then -1074 else (x / 4503599627370496 % 2048 : Nat) - 1075
def sgnI (neg : Bool) (m : Nat) : Int := if neg then -(m : Int) else m
abbrev Nu := Int × Int
/-- ball.exact of a finite float. -/
def exactN (x : Nat) : Nu := if mantN x = 0 then (0, 0) else (sgnI (decide (SG ≤ x)) (mantN x / 2 ^ tzN 64 (mantN x)), expN x + tzN 64 (mantN x))
def nplus (a b : Nu) : Nu := if a.1 = 0 then b else if b.1 = 0 then a else
  if a.2 < b.2 then (b.1 * 2 ^ (b.2 - a.2).toNat + a.1, a.2) else (a.1 * 2 ^ (a.2 - b.2).toNat + b.1, b.2)
def nless (a b : Nu) : Nu := nplus a (-b.1, b.2)
def ntimes (a b : Nu) : Nu := (a.1 * b.1, a.2 + b.2)
def nfar (x y r : Nu) : Bool := if r.1 < 0 then true else decide (0 < (nless (nplus (ntimes x x) (ntimes y y)) (ntimes r r)).1)
/-- ball.Inside of finite balls. -/
def insideO (a b : Ba) : Option Bool := if a.ok && b.ok then
  some (if ordN a.r b.r == some .gt then false else
    !nfar (nless (exactN a.c.re) (exactN b.c.re)) (nless (exactN a.c.im) (exactN b.c.im)) (nless (exactN b.r) (exactN a.r)))
  else none
/-- trap.In of one ball that is a trap's: the step at which it is in. -/
def inO (p : List Co) (t : Ba) : Nat → Nat → Ba → Option (Option Nat)
  | 0, k, b => do
    let i ← insideO b t
    some (if i then some k else none)
  | n + 1, k, b => do
    let i ← insideO b t
    if i then some (some k) else do
      let (c, _) ← bothO p b
      inO p t n (k + 1) c
end Go.Proofs.YtneakieigiafpaaGreatDoor
