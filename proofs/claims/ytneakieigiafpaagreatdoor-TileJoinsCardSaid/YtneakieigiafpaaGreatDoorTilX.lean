/- Plc, PicS, TilB, Tils: texts of one claim laid together. -/
import Derived.Test.YtneakieigiafpaaGreatDoorGriX4
import Derived.WalkKit
import Derived.Test.YtneakieigiafpaaGreatDoorMemX
import Derived.Test.YtneakieigiafpaaGreatDoorRows
import Derived.Deep.LoopGhost
import Derived.Deep.QuietTactic
import Derived.BigQuiet
/- Where a cell lies: in just the rectangle that atN names. -/
namespace Go.Proofs.YtneakieigiafpaaGreatDoor
open Go.RowKit

theorem ediv_is {x w m : Int} (hw : 1 ≤ w) : x / w = m ↔ m * w ≤ x ∧ x < m * w + w := by
  constructor
  · rintro rfl
    have h1 := Int.mul_ediv_self_le (x := x) (k := w) (by omega)
    have h2 := Int.lt_mul_ediv_self_add (x := x) (k := w) (by omega)
    rw [Int.mul_comm] at h1 h2
    exact ⟨h1, h2⟩
  · rintro ⟨h1, h2⟩
    have a := (Int.le_ediv_iff_mul_le (show 0 < w by omega)).2 h1
    have b := Int.ediv_lt_of_lt_mul (show 0 < w by omega) (show x < (m + 1) * w by rw [Int.add_mul]; omega)
    omega
theorem quo_up {x w a : Int} (hw : 1 ≤ w) (_ : 0 ≤ x) (hx : x < a) : x / w < (a + w - 1) / w := by
  have h1 := Int.mul_ediv_self_le (x := x) (k := w) (by omega)
  have : x / w + 1 ≤ (a + w - 1) / w := (Int.le_ediv_iff_mul_le (by omega)).2 (by rw [Int.add_mul, Int.mul_comm]; omega)
  omega
theorem place_is {A q r n : Int} (hA : 1 ≤ A) (hr : 0 ≤ r) (hr' : r < A) : q * A + r = n ↔ q = n / A ∧ r = n % A := by
  have e := Int.mul_ediv_add_emod n A
  have m0 := Int.emod_nonneg n (show A ≠ 0 by omega)
  have m1 := Int.emod_lt_of_pos n (show 0 < A by omega)
  constructor
  · rintro rfl
    have : (q * A + r) / A = q := (ediv_is hA).2 ⟨by omega, by omega⟩
    rw [this] at e ⊢
    rw [Int.mul_comm A q] at e
    exact ⟨rfl, by omega⟩
  · rintro ⟨rfl, rfl⟩
    rw [Int.mul_comm]; exact e
theorem in_rect {g : GrD} (hB : GrBnd g) (x y n : Int) (x0 : 0 ≤ x) (x1 : x < g.across) (_ : 0 ≤ y) (y1 : y < g.down) :
    (rectX g n ≤ x ∧ x < rectX g n + rectW g n ∧ rectY g n ≤ y ∧ y < rectY g n + rectH g n) ↔ atN g x y = n := by
  have hw := hB.w0
  have hh := hB.h0
  have r1 : x / g.wide < gridA g := quo_up hw x0 x1
  have r0 : 0 ≤ x / g.wide := Int.ediv_nonneg x0 (by omega)
  unfold atN
  rw [place_is hB.gA.1 r0 r1, ediv_is hh, ediv_is hw]
  unfold rectW rectH rectX rectY
  omega
end Go.Proofs.YtneakieigiafpaaGreatDoor

/- Plain words on pictures: sizes, runs, bytes. No program in sight. -/
namespace Go.Proofs.YtneakieigiafpaaGreatDoor
open Go.RowKit

def sizeB (a d : Int) : Bool := decide (1 ≤ a) && (decide (1 ≤ d) && (decide (a ≤ 4194304) && decide (d ≤ 4194304 / a)))
def mayB (a d : Int) (n : Nat) : Bool := sizeB a d && decide ((n : Int) = a * d)
def checkI (a d : Int) (n : Nat) : Int := if mayB a d n then 0 else 290

theorem sizeB_iff (a d : Int) : sizeB a d = true ↔ 1 ≤ a ∧ 1 ≤ d ∧ a ≤ 4194304 ∧ d ≤ 4194304 / a := by simp [sizeB]
theorem sizeB_bounds {a d : Int} (h : sizeB a d = true) : 1 ≤ a ∧ a ≤ 4194304 ∧ 1 ≤ d ∧ d ≤ 4194304 ∧ 1 ≤ a * d ∧ a * d ≤ 4194304 := by
  obtain ⟨h1, h2, h3, h4⟩ := (sizeB_iff a d).1 h
  have h5 : d * a ≤ 4194304 := Int.le_trans (Int.mul_le_mul_of_nonneg_right h4 (by omega)) (Int.ediv_mul_le _ (by omega))
  have h6 : 1 * 1 ≤ a * d := Int.mul_le_mul h1 h2 (by omega) (by omega)
  rw [Int.mul_comm] at h5
  have h7 : 1 * d ≤ a * d := Int.mul_le_mul_of_nonneg_right h1 (by omega)
  omega
/-- The reference's way to say it. -/
def rightB (a d n m : Int) : Bool := !(decide (a < 1) || (decide (d < 1) || (decide (m < a) || decide (m < d)))) && (decide (a * d ≤ m) && decide (n = a * d))
theorem right_may (a d : Int) (n : Nat) : rightB a d n 4194304 = mayB a d n := by
  rw [Bool.eq_iff_iff]
  constructor
  · intro h
    simp [rightB] at h
    obtain ⟨⟨h1, h2, h3, h4⟩, h5, h6⟩ := h
    have h7 : d ≤ 4194304 / a := (Int.le_ediv_iff_mul_le (by omega)).2 (by rw [Int.mul_comm]; exact h5)
    simp [mayB, sizeB]
    exact ⟨⟨by omega, by omega, h3, h7⟩, h6⟩
  · intro h
    simp only [mayB, Bool.and_eq_true, decide_eq_true_eq] at h
    have hb := sizeB_bounds h.1
    simp [rightB]
    exact ⟨⟨by omega, by omega, by omega, by omega⟩, by omega, h.2⟩

theorem mayB_bounds {a d : Int} {n : Nat} (h : mayB a d n = true) : 1 ≤ a ∧ a ≤ 4194304 ∧ 1 ≤ d ∧ d ≤ 4194304 ∧ (n : Int) = a * d ∧ 1 ≤ n ∧ n ≤ 4194304 := by
  simp only [mayB, Bool.and_eq_true, decide_eq_true_eq] at h
  have hb := sizeB_bounds h.1
  omega

/-! ### Runs -/

/-- How many of the first k of l are x, without a gap. -/
def lead (x : UInt8) : Nat → List UInt8 → Nat
  | 0, _ => 0
  | _ + 1, [] => 0
  | k + 1, y :: l => if y = x then 1 + lead x k l else 0
def runLen : List UInt8 → Nat
  | [] => 0
  | x :: l => 1 + lead x 254 l
theorem lead_le (x : UInt8) : ∀ (k : Nat) (l : List UInt8), lead x k l ≤ k ∧ lead x k l ≤ l.length
  | 0, _ => by simp [lead]
  | _ + 1, [] => by simp [lead]
  | k + 1, y :: l => by
    have := lead_le x k l
    unfold lead
    split <;> simp <;> omega
theorem lead_spec (x : UInt8) : ∀ (k n : Nat) (l : List UInt8), n ≤ k → n ≤ l.length → (∀ i, i < n → l[i]? = some x) → (n = k ∨ n = l.length ∨ l[n]? ≠ some x) → lead x k l = n
  | 0, n, _, hk, _, _, _ => by simp [lead]; omega
  | _ + 1, n, [], _, hl, _, _ => by simp [lead] at hl ⊢; omega
  | k + 1, 0, y :: l, _, _, _, he => by
    unfold lead
    rw [if_neg]
    intro h
    subst h
    rcases he with h | h | h <;> simp at h
  | k + 1, n + 1, y :: l, hk, hl, hx, he => by
    have h0 : y = x := by simpa using hx 0 (by omega)
    unfold lead
    rw [if_pos h0, lead_spec x k n l (by omega) (by simpa using hl) (fun i hi => by simpa using hx (i + 1) (by omega)) (by
      rcases he with h | h | h
      · exact .inl (by omega)
      · exact .inr (.inl (by simpa using h))
      · exact .inr (.inr (by simpa using h)))]
    omega
theorem runLen_spec (x : UInt8) (l : List UInt8) (n : Nat) (h1 : 1 ≤ n) (h255 : n ≤ 255) (hl : n ≤ (x :: l).length) (hx : ∀ i, i < n → (x :: l)[i]? = some x) (he : n = 255 ∨ n = (x :: l).length ∨ (x :: l)[n]? ≠ some x) : runLen (x :: l) = n := by
  obtain ⟨m, rfl⟩ : ∃ m, n = m + 1 := ⟨n - 1, by omega⟩
  show 1 + lead x 254 l = m + 1
  rw [lead_spec x 254 m l (by omega) (by simpa using hl) (fun i hi => by simpa using hx (i + 1) (by omega)) (by
      rcases he with h | h | h
      · exact .inl (by omega)
      · exact .inr (.inl (by simpa using h))
      · exact .inr (.inr (by simpa using h)))]
  omega
theorem runLen_pos (x : UInt8) (l : List UInt8) : 1 ≤ runLen (x :: l) ∧ runLen (x :: l) ≤ 255 ∧ runLen (x :: l) ≤ (x :: l).length := by
  have := lead_le x 254 l
  simp [runLen]
  omega

/-- The runs of a row, two bytes each (fuel: as many as there are greys). -/
def runsF : Nat → List UInt8 → List UInt8
  | 0, _ => []
  | _ + 1, [] => []
  | f + 1, x :: l => UInt8.ofNat (runLen (x :: l)) :: x :: runsF f ((x :: l).drop (runLen (x :: l)))
def runs (l : List UInt8) : List UInt8 := runsF l.length l
theorem runsF_more : ∀ (f g : Nat) (l : List UInt8), l.length ≤ f → l.length ≤ g → runsF f l = runsF g l
  | 0, 0, _, _, _ => rfl
  | 0, g + 1, [], _, _ => rfl
  | 0, g + 1, x :: l, h, _ => by simp at h
  | f + 1, 0, [], _, _ => rfl
  | f + 1, 0, x :: l, _, h => by simp at h
  | f + 1, g + 1, [], _, _ => rfl
  | f + 1, g + 1, x :: l, hf, hg => by
    have := runLen_pos x l
    unfold runsF
    rw [runsF_more f g _ (by simp at hf ⊢; omega) (by simp at hg ⊢; omega)]
theorem runs_nil : runs [] = [] := rfl
theorem runs_cons (x : UInt8) (l : List UInt8) : runs (x :: l) = UInt8.ofNat (runLen (x :: l)) :: x :: runs ((x :: l).drop (runLen (x :: l))) := by
  have := runLen_pos x l
  have hl : ((x :: l).drop (runLen (x :: l))).length = l.length + 1 - runLen (x :: l) := by simp
  show runsF (l.length + 1) (x :: l) = _
  rw [runsF, runs, runsF_more l.length _ _ (by omega) (Nat.le_refl _)]
theorem runsF_length : ∀ (f : Nat) (l : List UInt8), (runsF f l).length ≤ 2 * l.length
  | 0, _ => by simp [runsF]
  | _ + 1, [] => by simp [runsF]
  | f + 1, x :: l => by
    have h := runsF_length f ((x :: l).drop (runLen (x :: l)))
    have := runLen_pos x l
    simp [runsF] at h ⊢
    omega
theorem runs_length (l : List UInt8) : (runs l).length ≤ 2 * l.length := runsF_length _ _

/-- Does the run end behind q of l? -/
def stopB (q : Nat) (l : List UInt8) : Bool := decide (q = l.length) || (decide (q = 255) || !(l[q]? == l[0]?))
theorem stop_len {q : Nat} {x : UInt8} {r : List UInt8} (h1 : 1 ≤ q) (h2 : q ≤ 255) (h3 : q ≤ (x :: r).length) (hx : ∀ i, i < q → (x :: r)[i]? = some x) (hs : stopB q (x :: r) = true) : runLen (x :: r) = q := by
  refine runLen_spec x r q h1 h2 h3 hx ?_
  simp only [stopB, Bool.or_eq_true, decide_eq_true_eq, Bool.not_eq_true', beq_eq_false_iff_ne] at hs
  rcases hs with h | h | h
  · exact .inr (.inl h)
  · exact .inl h
  · exact .inr (.inr (by simpa using h))
theorem stop_no {q : Nat} {x : UInt8} {r : List UInt8} (hs : stopB q (x :: r) = false) (h3 : q ≤ (x :: r).length) (hx : ∀ i, i < q → (x :: r)[i]? = some x) : q ≠ 255 ∧ q + 1 ≤ (x :: r).length ∧ ∀ i, i < q + 1 → (x :: r)[i]? = some x := by
  simp only [stopB, Bool.or_eq_false_iff, decide_eq_false_iff_not, Bool.not_eq_false', beq_iff_eq] at hs
  obtain ⟨h, h', h''⟩ := hs
  refine ⟨h', by omega, fun i hi => ?_⟩
  by_cases hq : i = q
  · subst hq; rw [h'']; rfl
  · exact hx i (by omega)

/-- Row k of greys g that are a across. -/
def rowOf (a : Nat) (g : List UInt8) (k : Nat) : List UInt8 := (g.drop (k * a)).take a
/-- The runs of the first k rows. -/
def greyRunsTo (a : Nat) (g : List UInt8) : Nat → List UInt8
  | 0 => []
  | k + 1 => greyRunsTo a g k ++ runs (rowOf a g k)
theorem runsTo_length (a : Nat) (g : List UInt8) : ∀ k, (greyRunsTo a g k).length ≤ 2 * (k * a)
  | 0 => by simp [greyRunsTo]
  | k + 1 => by
    have h := runsTo_length a g k
    have h2 := runs_length (rowOf a g k)
    have h3 : (rowOf a g k).length ≤ a := by simp [rowOf]; omega
    simp [greyRunsTo, Nat.add_mul]
    omega

theorem runsTo_le (a d n : Nat) (g : List UInt8) (k : Nat) (hn : n = a * d) (hk : k ≤ d) : (greyRunsTo a g k).length ≤ 2 * n := by
  have := runsTo_length a g k
  have h2 : k * a ≤ d * a := Nat.mul_le_mul_right _ hk
  rw [Nat.mul_comm d a, ← hn] at h2
  omega
def be4 (n : Nat) : List UInt8 := [UInt8.ofNat (n / 16777216), UInt8.ofNat (n / 65536), UInt8.ofNat (n / 256), UInt8.ofNat n]
def headB (a d : Nat) : List UInt8 := [70, 76, 80, 1] ++ be4 a ++ be4 d
theorem headB_length (a d : Nat) : (headB a d).length = 12 := rfl
/-- The bytes of a picture. -/
def writeL (a d : Nat) (g : List UInt8) : List UInt8 := headB a d ++ greyRunsTo a g d
def bytesV (l : List UInt8) : List Value := l.map fun b => .int .u8 (b.toNat : Int)
theorem bytesV_length (l : List UInt8) : (bytesV l).length = l.length := by simp [bytesV]
theorem bytesV_append (l k : List UInt8) : bytesV (l ++ k) = bytesV l ++ bytesV k := by simp [bytesV]
theorem bytesV_take (l : List UInt8) (k : Nat) : (bytesV l).take k = bytesV (l.take k) := by simp [bytesV]
theorem bytesV_drop (l : List UInt8) (k : Nat) : (bytesV l).drop k = bytesV (l.drop k) := by simp [bytesV]
theorem bytesV_get (l : List UInt8) (k : Nat) (h : k < l.length) : (bytesV l)[k]? = some (.int .u8 (l[k].toNat : Int)) := by simp [bytesV, h]
theorem bytesV_one (l : List UInt8) : ∀ u ∈ bytesV l, u.oneCell' = true := by
  intro u hu
  simp [bytesV] at hu
  obtain ⟨b, _, rfl⟩ := hu
  rfl
theorem be4_ints (k : Int) (h0 : 0 ≤ k) (h1 : k ≤ 4194304) : [Value.int .u8 (k / 16777216), .int .u8 (k / 65536), .int .u8 (k / 256 % 256), .int .u8 (k % 256)] = bytesV (be4 k.toNat) := by
  obtain ⟨m, rfl⟩ := Int.eq_ofNat_of_zero_le h0
  simp [be4, bytesV]
  omega
end Go.Proofs.YtneakieigiafpaaGreatDoor

/- Tiles and their witnesses: what they are in memory; tile.right, tile.Counts. -/
namespace Go.Proofs.YtneakieigiafpaaGreatDoor
open Go.RowKit

structure Wit where
  t : Int
  s : Int
  r : Int
def Wit.ok (x : Wit) : Prop := 0 ≤ x.t ∧ x.t ≤ 255 ∧ -9223372036854775808 ≤ x.s ∧ x.s ≤ 9223372036854775807 ∧ -9223372036854775808 ≤ x.r ∧ x.r ≤ 9223372036854775807
def Wit.val (x : Wit) : List Value := [.int .u8 x.t, .int .i64 x.s, .int .i64 x.r]
def witV : List Wit → List Value
  | [] => []
  | x :: l => .int .u8 x.t :: .int .i64 x.s :: .int .i64 x.r :: witV l
theorem witV_length : ∀ l, (witV l).length = l.length * 3
  | [] => rfl
  | x :: l => by simp [witV, witV_length l]; omega
theorem witV_append : ∀ l k, witV (l ++ k) = witV l ++ witV k
  | [], k => rfl
  | x :: l, k => by simp [witV, witV_append l k]
theorem witV_take : ∀ (l : List Wit) (k : Nat), (witV l).take (k * 3) = witV (l.take k)
  | _, 0 => by simp [witV]
  | [], k + 1 => by simp [witV]
  | x :: l, k + 1 => by
    rw [show (k + 1) * 3 = k * 3 + 1 + 1 + 1 by omega]
    simp [witV, witV_take l k]
theorem witV_one : ∀ (l : List Wit), ∀ u ∈ witV l, u.oneCell' = true
  | [], u, hu => by simp [witV] at hu
  | x :: l, u, hu => by
    simp only [witV, List.mem_cons] at hu
    rcases hu with rfl | rfl | rfl | hu
    · rfl
    · rfl
    · rfl
    · exact witV_one l u hu
theorem witV_get : ∀ (l : List Wit) (k : Nat) (x : Wit), l[k]? = some x → (witV l)[k * 3]? = some (.int .u8 x.t) ∧ (witV l)[k * 3 + 1]? = some (.int .i64 x.s) ∧ (witV l)[k * 3 + 2]? = some (.int .i64 x.r)
  | [], k, x, h => by simp at h
  | y :: l, 0, x, h => by
    simp at h; subst h
    simp [witV]
  | y :: l, k + 1, x, h => by
    have := witV_get l k x (by simpa using h)
    rw [show (k + 1) * 3 = k * 3 + 1 + 1 + 1 by omega]
    simpa [witV, Nat.add_assoc] using this
theorem wit_at {W : World} {A : Option Addr} {l : List Wit} (h : Row W A (witV l)) {k : Nat} {x : Wit} (hx : l[k]? = some x) :
    ∃ b off, A = some ⟨b, off, none⟩ ∧ W.cell? ⟨b, off + k * 3, none⟩ = some (.int .u8 x.t) ∧ W.cell? ⟨b, off + k * 3 + 1, none⟩ = some (.int .i64 x.s) ∧ W.cell? ⟨b, off + k * 3 + 2, none⟩ = some (.int .i64 x.r) := by
  obtain ⟨h0, h1, h2⟩ := witV_get l k x hx
  rcases h with h | ⟨b, off, hA, hc⟩
  · rw [h] at h0; simp at h0
  · exact ⟨b, off, hA, hc _ _ h0, by rw [Nat.add_assoc]; exact hc _ _ h1, by rw [Nat.add_assoc]; exact hc _ _ h2⟩

/-- What a tile is. -/
structure TilD where
  x : Int
  y : Int
  a : Int
  d : Int
  c : List Wit
structure TilAt (W : World) (T : TilD) (A : Option Addr) (n c : Nat) : Prop where
  len : T.c.length = n
  cap : n ≤ c
  max : n ≤ 9223372036854775807
  row : Row W A (witV T.c)
  ok : ∀ w ∈ T.c, w.ok
  x0 : -9223372036854775808 ≤ T.x
  x1 : T.x ≤ 9223372036854775807
  y0 : -9223372036854775808 ≤ T.y
  y1 : T.y ≤ 9223372036854775807
  a0 : -9223372036854775808 ≤ T.a
  a1 : T.a ≤ 9223372036854775807
  d0 : -9223372036854775808 ≤ T.d
  d1 : T.d ≤ 9223372036854775807
theorem TilAt.kept {W W' : World} {T : TilD} {A : Option Addr} {n c : Nat} (h : TilAt W T A n c) (hk : Kept W W') : TilAt W' T A n c := { h with row := h.row.kept hk }
def tileB (x y a d : Int) (n : Nat) : Bool := decide (0 ≤ x) && (decide (0 ≤ y) && rightB a d n 4194304)
theorem tileB_may {x y a d : Int} {n : Nat} (h : tileB x y a d n = true) : mayB a d n = true := by
  simp only [tileB, Bool.and_eq_true, right_may] at h; exact h.2.2

theorem tile_no {x y a d : Int} {n : Nat} (h : ¬ (1 ≤ a ∧ 1 ≤ d ∧ 0 ≤ x ∧ 0 ≤ y ∧ a ≤ 4194304 ∧ d ≤ 4194304)) : tileB x y a d n = false := by
  cases e : tileB x y a d n with
  | false => rfl
  | true => exfalso; simp [tileB, rightB] at e; omega

set_option maxRecDepth 100000 in
set_option maxHeartbeats 1600000 in
theorem tright_any (x y a d : Int) (A : Option Addr) (n c : Nat) (w : World) (ha : -9223372036854775808 ≤ a) (ha' : a ≤ 9223372036854775807) (hd : -9223372036854775808 ≤ d) (hd' : d ≤ 9223372036854775807) (hx : -9223372036854775808 ≤ x) (hy : -9223372036854775808 ≤ y) :
    Calls Tryz.prog 64 #[.agg #[.int .i64 x, .int .i64 y, .int .i64 a, .int .i64 d, .slice A n c]] w fun e w' => e = .returned (.bool (tileB x y a d n)) ∧ Kept w w' := by
  by_cases hb : 1 ≤ a ∧ 1 ≤ d ∧ 0 ≤ x ∧ 0 ≤ y ∧ a ≤ 4194304 ∧ d ≤ 4194304
  · obtain ⟨h1, h2, h3, h4, h5, h6⟩ := hb
    have p1 : 0 ≤ a * d := Int.mul_nonneg (by omega) (by omega)
    have p2 : a * d ≤ 4194304 * 4194304 := Int.mul_le_mul h5 h6 (by omega) (by omega)
    have e1 : ¬ a < 1 := by omega
    have e2 : ¬ d < 1 := by omega
    have e3 : ¬ x < 0 := by omega
    have e4 : ¬ y < 0 := by omega
    have e5 : ¬ 4194304 < a := by omega
    have e6 : ¬ 4194304 < d := by omega
    have hT := hide (show tileB x y a d n = (decide (a * d ≤ 4194304) && decide ((n : Int) = a * d)) by simp [tileB, rightB, h1, h2, h3, h4, h5, h6])
    go_enter Tryz.func64, Tryz.ntmps64
    go_wp2
    all_goals
      go_ret
      refine ⟨bool_ret ?_, ((Below.refl _ _).alloc (Nat.le_refl _) _).alloc (by simp) _⟩
      rw [hT.out, Bool.eq_iff_iff]
      simp
      try omega
  · have HB := hide hb
    clear hb
    go_enter Tryz.func64, Tryz.ntmps64
    go_wp2
    all_goals first
      | (exfalso; have := HB.out; omega)
      | (go_ret; exact ⟨bool_ret (tile_no HB.out).symm, ((Below.refl _ _).alloc (Nat.le_refl _) _).alloc (by simp) _⟩)

def CountsPost (w : World) (E : Int) (e : Ending) (w' : World) : Prop := ∃ i o u : Int, e = .returned (.tuple #[.int .i64 i, .int .i64 o, .int .i64 u, .int .i64 E]) ∧ Kept w w'

set_option maxRecDepth 100000 in
set_option maxHeartbeats 800000 in
theorem counts_bad (T : TilD) (A : Option Addr) (n c : Nat) (w : World) (h : TilAt w T A n c) (hT : tileB T.x T.y T.a T.d n = false) :
    Calls Tryz.prog 38 #[.agg #[.int .i64 T.x, .int .i64 T.y, .int .i64 T.a, .int .i64 T.d, .slice A n c]] w (CountsPost w 250) := by
  have CR : Hid (∀ W, Calls Tryz.prog 64 #[.agg #[.int .i64 T.x, .int .i64 T.y, .int .i64 T.a, .int .i64 T.d, .slice A n c]] W fun e w' => e = .returned (.bool false) ∧ Kept W w') := fun W => by
    have := tright_any T.x T.y T.a T.d A n c W h.a0 h.a1 h.d0 h.d1 h.x0 h.y0
    rwa [hT] at this
  clear hT h
  go_enter Tryz.func38, Tryz.ntmps38
  go_wp2_with (go_at_call 64; refine (CR.out _).mono ?_; rintro e w1 ⟨rfl, hk1⟩)
  refine bodyPost_ret (v := .tuple #[.int .i64 0, .int .i64 0, .int .i64 0, .int .i64 250]) (by simp [results, Tryz.results38, go_sem]) rfl ⟨0, 0, 0, rfl, ((Below.refl _ _).alloc (Nat.le_refl _) _).trans (hk1.mono (by simp))⟩

set_option maxRecDepth 100000 in
set_option maxHeartbeats 800000 in
theorem counts_good (T : TilD) (A : Option Addr) (n c : Nat) (w : World) (h : TilAt w T A n c) (hT : tileB T.x T.y T.a T.d n = true) :
    Calls Tryz.prog 38 #[.agg #[.int .i64 T.x, .int .i64 T.y, .int .i64 T.a, .int .i64 T.d, .slice A n c]] w (CountsPost w 0) := by
  have CR : Hid (∀ W, Calls Tryz.prog 64 #[.agg #[.int .i64 T.x, .int .i64 T.y, .int .i64 T.a, .int .i64 T.d, .slice A n c]] W fun e w' => e = .returned (.bool true) ∧ Kept W w') := fun W => by
    have := tright_any T.x T.y T.a T.d A n c W h.a0 h.a1 h.d0 h.d1 h.x0 h.y0
    rwa [hT] at this
  have hn := (mayB_bounds (tileB_may hT)).2.2.2.2.2.2
  have HT := hide h
  have B0 : Hid (∀ o v, (w.alloc (.cells #[.int .i64 T.x, .int .i64 T.y, .int .i64 T.a, .int .i64 T.d, .slice A n c] 56)).cell? ⟨w.heap.size, o, none⟩ = some v → ∀ W, Kept (w.alloc (.cells #[.int .i64 T.x, .int .i64 T.y, .int .i64 T.a, .int .i64 T.d, .slice A n c] 56)) W → W.cell? ⟨w.heap.size, o, none⟩ = some v) := fun o v hv W hW => (hW.cells _ _ (by simp)).trans hv
  clear hT h
  go_enter Tryz.func38, Tryz.ntmps38
  go_wp2_with (go_at_call 64; refine (CR.out _).mono ?_; rintro e w1 ⟨rfl, hk1⟩; have c4 := B0.out 4 (.slice A n c) (by simp) w1 hk1; have K1 := hide (((Below.refl _ _).alloc (Nat.le_refl _) (.cells #[.int .i64 T.x, .int .i64 T.y, .int .i64 T.a, .int .i64 T.d, .slice A n c] 56)).trans (hk1.mono (by simp))); clear hk1)
  go_loopg [2, 3, 4, 14] n (fun gh i o u ix wr => ∃ (k a b c : Nat), k + gh = n ∧ a ≤ k ∧ b ≤ k ∧ c ≤ k ∧ ix = .int .i64 k ∧ i = .int .i64 a ∧ o = .int .i64 b ∧ u = .int .i64 c ∧ Kept w wr)
  case atStart => exact ⟨0, 0, 0, 0, by omega, by omega, by omega, by omega, rfl, rfl, rfl, rfl, K1.out⟩
  case round =>
    obtain ⟨k, a, b, c', hkg, ha, hb, hc, rfl, rfl, rfl, rfl, hk⟩ := hrel
    cases gk with
    | zero =>
      have hge : ¬ (k : Int) < n := by omega
      go_wp2
      exact bodyPost_ret (v := .tuple #[.int .i64 a, .int .i64 b, .int .i64 c', .int .i64 0]) (by simp [results, Tryz.results38, go_sem]) rfl ⟨a, b, c', rfl, hk⟩
    | succ gh =>
      have hlt : (k : Int) < n := by omega
      obtain ⟨x, hx⟩ : ∃ x, T.c[k]? = some x := ⟨_, List.getElem?_eq_getElem (by have := HT.out.len; omega)⟩
      obtain ⟨bb, off, rfl, x0, x1, x2⟩ := wit_at (HT.out.row.kept hk) hx
      have HK := hide hk
      have hbl := lt_of_cell x0
      clear hx hk
      go_wp2
      all_goals
        go_roundg gh
        case measure => omega
        case rel => first
          | exact ⟨k + 1, a + 1, b, c', by omega, by omega, by omega, by omega, by go_num, by go_num, rfl, rfl, HK.out.alloc HK.out.size _⟩
          | exact ⟨k + 1, a, b + 1, c', by omega, by omega, by omega, by omega, by go_num, rfl, by go_num, rfl, HK.out.alloc HK.out.size _⟩
          | exact ⟨k + 1, a, b, c' + 1, by omega, by omega, by omega, by omega, by go_num, rfl, rfl, by go_num, HK.out.alloc HK.out.size _⟩

end Go.Proofs.YtneakieigiafpaaGreatDoor

/- Lists of tiles in memory. -/
namespace Go.Proofs.YtneakieigiafpaaGreatDoor
open Go.RowKit

/-- A tile and the head of its slice. -/
structure TilH where
  T : TilD
  A : Option Addr
  n : Nat
  c : Nat
def tilV : List TilH → List Value
  | [] => []
  | t :: l => .int .i64 t.T.x :: .int .i64 t.T.y :: .int .i64 t.T.a :: .int .i64 t.T.d :: .slice t.A t.n t.c :: tilV l
theorem tilV_length : ∀ l, (tilV l).length = l.length * 5
  | [] => rfl
  | x :: l => by simp [tilV, tilV_length l]; omega
theorem tilV_append : ∀ l k, tilV (l ++ k) = tilV l ++ tilV k
  | [], k => rfl
  | x :: l, k => by simp [tilV, tilV_append l k]
theorem tilV_get : ∀ (l : List TilH) (k : Nat) (t : TilH), l[k]? = some t → (tilV l)[k * 5]? = some (.int .i64 t.T.x) ∧ (tilV l)[k * 5 + 1]? = some (.int .i64 t.T.y) ∧ (tilV l)[k * 5 + 2]? = some (.int .i64 t.T.a) ∧ (tilV l)[k * 5 + 3]? = some (.int .i64 t.T.d) ∧ (tilV l)[k * 5 + 4]? = some (.slice t.A t.n t.c)
  | [], k, x, h => by simp at h
  | y :: l, 0, x, h => by
    simp at h; subst h
    simp [tilV]
  | y :: l, k + 1, x, h => by
    have := tilV_get l k x (by simpa using h)
    rw [show (k + 1) * 5 = k * 5 + 1 + 1 + 1 + 1 + 1 by omega]
    simpa [tilV, Nat.add_assoc] using this
structure Tils (W : World) (A : Option Addr) (L : List TilH) : Prop where
  row : Row W A (tilV L)
  each : ∀ t ∈ L, TilAt W t.T t.A t.n t.c
theorem Tils.kept {W W' : World} {A : Option Addr} {L : List TilH} (h : Tils W A L) (hk : Kept W W') : Tils W' A L := ⟨h.row.kept hk, fun t ht => (h.each t ht).kept hk⟩
theorem Tils.at_ {W : World} {A : Option Addr} {L : List TilH} (h : Tils W A L) {k : Nat} {t : TilH} (hx : L[k]? = some t) :
    ∃ b off, A = some ⟨b, off, none⟩ ∧ W.cell? ⟨b, off + k * 5, none⟩ = some (.int .i64 t.T.x) ∧ W.cell? ⟨b, off + k * 5 + 1, none⟩ = some (.int .i64 t.T.y) ∧ W.cell? ⟨b, off + k * 5 + 2, none⟩ = some (.int .i64 t.T.a) ∧ W.cell? ⟨b, off + k * 5 + 3, none⟩ = some (.int .i64 t.T.d) ∧ W.cell? ⟨b, off + k * 5 + 4, none⟩ = some (.slice t.A t.n t.c) := by
  obtain ⟨h0, h1, h2, h3, h4⟩ := tilV_get L k t hx
  rcases h.row with h | ⟨b, off, hA, hc⟩
  · rw [h] at h0; simp at h0
  · exact ⟨b, off, hA, hc _ _ h0, by rw [Nat.add_assoc]; exact hc _ _ h1, by rw [Nat.add_assoc]; exact hc _ _ h2, by rw [Nat.add_assoc]; exact hc _ _ h3, by rw [Nat.add_assoc]; exact hc _ _ h4⟩
end Go.Proofs.YtneakieigiafpaaGreatDoor
