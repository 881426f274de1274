/- Tiles and their witnesses: what they are in memory; tile.right, tile.Counts, picture.whole and the reference's Tile, walked. -/
import Derived.Test.YtbhgcbgaadnfpaaCropW
import Derived.Test.YtbhgcbgaadnfpaaRefA
import Derived.Test.YtbhgcbgaadnfpaaBesW
namespace Go.Proofs.Ytbhgcbgaadnfpaa
open Go.RowKit

structure Wit where
  t : Int
  s : Int
  r : Int
def Wit.ok (x : Wit) : Prop := 0 ≤ x.t ∧ x.t ≤ 255 ∧ -9223372036854775808 ≤ x.s ∧ x.s ≤ 9223372036854775807 ∧ -9223372036854775808 ≤ x.r ∧ x.r ≤ 9223372036854775807
def Wit.val (x : Wit) : List Value := [.int .u8 x.t, .int .i64 x.s, .int .i64 x.r]
def witV : List Wit → List Value
  | [] => []
  | x :: l => .int .u8 x.t :: .int .i64 x.s :: .int .i64 x.r :: witV l
theorem witV_length : ∀ l, (witV l).length = l.length * 3
  | [] => rfl
  | x :: l => by simp [witV, witV_length l]; omega
theorem witV_append : ∀ l k, witV (l ++ k) = witV l ++ witV k
  | [], k => rfl
  | x :: l, k => by simp [witV, witV_append l k]
theorem witV_take : ∀ (l : List Wit) (k : Nat), (witV l).take (k * 3) = witV (l.take k)
  | _, 0 => by simp [witV]
  | [], k + 1 => by simp [witV]
  | x :: l, k + 1 => by
    rw [show (k + 1) * 3 = k * 3 + 1 + 1 + 1 by omega]
    simp [witV, witV_take l k]
theorem witV_one : ∀ (l : List Wit), ∀ u ∈ witV l, u.oneCell' = true
  | [], u, hu => by simp [witV] at hu
  | x :: l, u, hu => by
    simp only [witV, List.mem_cons] at hu
    rcases hu with rfl | rfl | rfl | hu
    · rfl
    · rfl
    · rfl
    · exact witV_one l u hu
theorem witV_get : ∀ (l : List Wit) (k : Nat) (x : Wit), l[k]? = some x → (witV l)[k * 3]? = some (.int .u8 x.t) ∧ (witV l)[k * 3 + 1]? = some (.int .i64 x.s) ∧ (witV l)[k * 3 + 2]? = some (.int .i64 x.r)
  | [], k, x, h => by simp at h
  | y :: l, 0, x, h => by
    simp at h; subst h
    simp [witV]
  | y :: l, k + 1, x, h => by
    have := witV_get l k x (by simpa using h)
    rw [show (k + 1) * 3 = k * 3 + 1 + 1 + 1 by omega]
    simpa [witV, Nat.add_assoc] using this
theorem wit_at {W : World} {A : Option Addr} {l : List Wit} (h : Row W A (witV l)) {k : Nat} {x : Wit} (hx : l[k]? = some x) :
    ∃ b off, A = some ⟨b, off, none⟩ ∧ W.cell? ⟨b, off + k * 3, none⟩ = some (.int .u8 x.t) ∧ W.cell? ⟨b, off + k * 3 + 1, none⟩ = some (.int .i64 x.s) ∧ W.cell? ⟨b, off + k * 3 + 2, none⟩ = some (.int .i64 x.r) := by
  obtain ⟨h0, h1, h2⟩ := witV_get l k x hx
  rcases h with h | ⟨b, off, hA, hc⟩
  · rw [h] at h0; simp at h0
  · exact ⟨b, off, hA, hc _ _ h0, by rw [Nat.add_assoc]; exact hc _ _ h1, by rw [Nat.add_assoc]; exact hc _ _ h2⟩

/-- What a tile is. -/
structure TilD where
  x : Int
  y : Int
  a : Int
  d : Int
  c : List Wit
structure TilAt (W : World) (T : TilD) (A : Option Addr) (n c : Nat) : Prop where
  len : T.c.length = n
  cap : n ≤ c
  max : n ≤ 9223372036854775807
  row : Row W A (witV T.c)
  ok : ∀ w ∈ T.c, w.ok
  x0 : -9223372036854775808 ≤ T.x
  x1 : T.x ≤ 9223372036854775807
  y0 : -9223372036854775808 ≤ T.y
  y1 : T.y ≤ 9223372036854775807
  a0 : -9223372036854775808 ≤ T.a
  a1 : T.a ≤ 9223372036854775807
  d0 : -9223372036854775808 ≤ T.d
  d1 : T.d ≤ 9223372036854775807
theorem TilAt.kept {W W' : World} {T : TilD} {A : Option Addr} {n c : Nat} (h : TilAt W T A n c) (hk : Kept W W') : TilAt W' T A n c := { h with row := h.row.kept hk }
def tileB (x y a d : Int) (n : Nat) : Bool := decide (0 ≤ x) && (decide (0 ≤ y) && rightB a d n 4194304)
theorem tileB_may {x y a d : Int} {n : Nat} (h : tileB x y a d n = true) : mayB a d n = true := by
  simp only [tileB, Bool.and_eq_true, right_may] at h; exact h.2.2

theorem tile_no {x y a d : Int} {n : Nat} (h : ¬ (1 ≤ a ∧ 1 ≤ d ∧ 0 ≤ x ∧ 0 ≤ y ∧ a ≤ 4194304 ∧ d ≤ 4194304)) : tileB x y a d n = false := by
  cases e : tileB x y a d n with
  | false => rfl
  | true => exfalso; simp [tileB, rightB] at e; omega

set_option maxRecDepth 100000 in
set_option maxHeartbeats 1600000 in
theorem tright_any (x y a d : Int) (A : Option Addr) (n c : Nat) (w : World) (ha : -9223372036854775808 ≤ a) (ha' : a ≤ 9223372036854775807) (hd : -9223372036854775808 ≤ d) (hd' : d ≤ 9223372036854775807) (hx : -9223372036854775808 ≤ x) (hy : -9223372036854775808 ≤ y) :
    Calls Try.prog 62 #[.agg #[.int .i64 x, .int .i64 y, .int .i64 a, .int .i64 d, .slice A n c]] w fun e w' => e = .returned (.bool (tileB x y a d n)) ∧ Kept w w' := by
  by_cases hb : 1 ≤ a ∧ 1 ≤ d ∧ 0 ≤ x ∧ 0 ≤ y ∧ a ≤ 4194304 ∧ d ≤ 4194304
  · obtain ⟨h1, h2, h3, h4, h5, h6⟩ := hb
    have p1 : 0 ≤ a * d := Int.mul_nonneg (by omega) (by omega)
    have p2 : a * d ≤ 4194304 * 4194304 := Int.mul_le_mul h5 h6 (by omega) (by omega)
    have e1 : ¬ a < 1 := by omega
    have e2 : ¬ d < 1 := by omega
    have e3 : ¬ x < 0 := by omega
    have e4 : ¬ y < 0 := by omega
    have e5 : ¬ 4194304 < a := by omega
    have e6 : ¬ 4194304 < d := by omega
    have hT := hide (show tileB x y a d n = (decide (a * d ≤ 4194304) && decide ((n : Int) = a * d)) by simp [tileB, rightB, h1, h2, h3, h4, h5, h6])
    go_enter Try.func62, Try.ntmps62
    go_wp2
    all_goals
      go_ret
      refine ⟨bool_ret ?_, ((Below.refl _ _).alloc (Nat.le_refl _) _).alloc (by simp) _⟩
      rw [hT.out, Bool.eq_iff_iff]
      simp
      try omega
  · have HB := hide hb
    clear hb
    go_enter Try.func62, Try.ntmps62
    go_wp2
    all_goals first
      | (exfalso; have := HB.out; omega)
      | (go_ret; exact ⟨bool_ret (tile_no HB.out).symm, ((Below.refl _ _).alloc (Nat.le_refl _) _).alloc (by simp) _⟩)

def CountsPost (w : World) (E : Int) (e : Ending) (w' : World) : Prop := ∃ i o u : Int, e = .returned (.tuple #[.int .i64 i, .int .i64 o, .int .i64 u, .int .i64 E]) ∧ Kept w w'

set_option maxRecDepth 100000 in
set_option maxHeartbeats 800000 in
theorem counts_bad (T : TilD) (A : Option Addr) (n c : Nat) (w : World) (h : TilAt w T A n c) (hT : tileB T.x T.y T.a T.d n = false) :
    Calls Try.prog 65 #[.agg #[.int .i64 T.x, .int .i64 T.y, .int .i64 T.a, .int .i64 T.d, .slice A n c]] w (CountsPost w 250) := by
  have CR : Hid (∀ W, Calls Try.prog 62 #[.agg #[.int .i64 T.x, .int .i64 T.y, .int .i64 T.a, .int .i64 T.d, .slice A n c]] W fun e w' => e = .returned (.bool false) ∧ Kept W w') := fun W => by
    have := tright_any T.x T.y T.a T.d A n c W h.a0 h.a1 h.d0 h.d1 h.x0 h.y0
    rwa [hT] at this
  clear hT h
  go_enter Try.func65, Try.ntmps65
  go_wp2_with (go_at_call 62; refine (CR.out _).mono ?_; rintro e w1 ⟨rfl, hk1⟩)
  refine bodyPost_ret (v := .tuple #[.int .i64 0, .int .i64 0, .int .i64 0, .int .i64 250]) (by simp [results, Try.results65, go_sem]) rfl ⟨0, 0, 0, rfl, ((Below.refl _ _).alloc (Nat.le_refl _) _).trans (hk1.mono (by simp))⟩

set_option maxRecDepth 100000 in
set_option maxHeartbeats 800000 in
theorem counts_good (T : TilD) (A : Option Addr) (n c : Nat) (w : World) (h : TilAt w T A n c) (hT : tileB T.x T.y T.a T.d n = true) :
    Calls Try.prog 65 #[.agg #[.int .i64 T.x, .int .i64 T.y, .int .i64 T.a, .int .i64 T.d, .slice A n c]] w (CountsPost w 0) := by
  have CR : Hid (∀ W, Calls Try.prog 62 #[.agg #[.int .i64 T.x, .int .i64 T.y, .int .i64 T.a, .int .i64 T.d, .slice A n c]] W fun e w' => e = .returned (.bool true) ∧ Kept W w') := fun W => by
    have := tright_any T.x T.y T.a T.d A n c W h.a0 h.a1 h.d0 h.d1 h.x0 h.y0
    rwa [hT] at this
  have hn := (mayB_bounds (tileB_may hT)).2.2.2.2.2.2
  have HT := hide h
  have B0 : Hid (∀ o v, (w.alloc (.cells #[.int .i64 T.x, .int .i64 T.y, .int .i64 T.a, .int .i64 T.d, .slice A n c] 69)).cell? ⟨w.heap.size, o, none⟩ = some v → ∀ W, Kept (w.alloc (.cells #[.int .i64 T.x, .int .i64 T.y, .int .i64 T.a, .int .i64 T.d, .slice A n c] 69)) W → W.cell? ⟨w.heap.size, o, none⟩ = some v) := fun o v hv W hW => (hW.cells _ _ (by simp)).trans hv
  clear hT h
  go_enter Try.func65, Try.ntmps65
  go_wp2_with (go_at_call 62; refine (CR.out _).mono ?_; rintro e w1 ⟨rfl, hk1⟩; have c4 := B0.out 4 (.slice A n c) (by simp) w1 hk1; have K1 := hide (((Below.refl _ _).alloc (Nat.le_refl _) (.cells #[.int .i64 T.x, .int .i64 T.y, .int .i64 T.a, .int .i64 T.d, .slice A n c] 69)).trans (hk1.mono (by simp))); clear hk1)
  go_loopg [2, 3, 4, 14] n (fun gh i o u ix wr => ∃ (k a b c : Nat), k + gh = n ∧ a ≤ k ∧ b ≤ k ∧ c ≤ k ∧ ix = .int .i64 k ∧ i = .int .i64 a ∧ o = .int .i64 b ∧ u = .int .i64 c ∧ Kept w wr)
  case atStart => exact ⟨0, 0, 0, 0, by omega, by omega, by omega, by omega, rfl, rfl, rfl, rfl, K1.out⟩
  case round =>
    obtain ⟨k, a, b, c', hkg, ha, hb, hc, rfl, rfl, rfl, rfl, hk⟩ := hrel
    cases gk with
    | zero =>
      have hge : ¬ (k : Int) < n := by omega
      go_wp2
      exact bodyPost_ret (v := .tuple #[.int .i64 a, .int .i64 b, .int .i64 c', .int .i64 0]) (by simp [results, Try.results65, go_sem]) rfl ⟨a, b, c', rfl, hk⟩
    | succ gh =>
      have hlt : (k : Int) < n := by omega
      obtain ⟨x, hx⟩ : ∃ x, T.c[k]? = some x := ⟨_, List.getElem?_eq_getElem (by have := HT.out.len; omega)⟩
      obtain ⟨bb, off, rfl, x0, x1, x2⟩ := wit_at (HT.out.row.kept hk) hx
      have HK := hide hk
      have hbl := lt_of_cell x0
      clear hx hk
      go_wp2
      all_goals
        go_roundg gh
        case measure => omega
        case rel => first
          | exact ⟨k + 1, a + 1, b, c', by omega, by omega, by omega, by omega, by go_num, by go_num, rfl, rfl, HK.out.alloc HK.out.size _⟩
          | exact ⟨k + 1, a, b + 1, c', by omega, by omega, by omega, by omega, by go_num, rfl, by go_num, rfl, HK.out.alloc HK.out.size _⟩
          | exact ⟨k + 1, a, b, c' + 1, by omega, by omega, by omega, by omega, by go_num, rfl, rfl, by go_num, HK.out.alloc HK.out.size _⟩

set_option maxRecDepth 100000 in
set_option maxHeartbeats 800000 in
theorem whole_any (T : TilD) (A : Option Addr) (n c : Nat) (w : World) (h : TilAt w T A n c) :
    Calls Try.prog 56 #[.agg #[.int .i64 T.x, .int .i64 T.y, .int .i64 T.a, .int .i64 T.d, .slice A n c]] w fun e w' => e = .returned (.bool (tileB T.x T.y T.a T.d n)) ∧ Kept w w' := by
  cases hT : tileB T.x T.y T.a T.d n with
  | false =>
    have C := hide (counts_bad T A n c _ (h.kept ((Below.refl _ _).alloc (Nat.le_refl _) (.cells #[.int .i64 T.x, .int .i64 T.y, .int .i64 T.a, .int .i64 T.d, .slice A n c] 69))) hT)
    clear hT h
    go_enter Try.func56, Try.ntmps56
    go_wp2_with (go_at_call 65; refine C.out.mono ?_; rintro e w1 ⟨i, o, u, rfl, hk1⟩)
    go_ret
    exact ⟨rfl, ((Below.refl _ _).alloc (Nat.le_refl _) _).trans (hk1.mono (by simp))⟩
  | true =>
    have C := hide (counts_good T A n c _ (h.kept ((Below.refl _ _).alloc (Nat.le_refl _) (.cells #[.int .i64 T.x, .int .i64 T.y, .int .i64 T.a, .int .i64 T.d, .slice A n c] 69))) hT)
    clear hT h
    go_enter Try.func56, Try.ntmps56
    go_wp2_with (go_at_call 65; refine C.out.mono ?_; rintro e w1 ⟨i, o, u, rfl, hk1⟩)
    go_ret
    exact ⟨rfl, ((Below.refl _ _).alloc (Nat.le_refl _) _).trans (hk1.mono (by simp))⟩

set_option maxRecDepth 100000 in
set_option maxHeartbeats 800000 in
theorem rtile_any (T : TilD) (A : Option Addr) (n c : Nat) (w : World) (h : TilAt w T A n c) :
    Calls Try.prog 38 #[.agg #[.int .i64 T.x, .int .i64 T.y, .int .i64 T.a, .int .i64 T.d, .slice A n c]] w fun e w' => e = .returned (.bool (tileB T.x T.y T.a T.d n)) ∧ Kept w w' := by
  have hmx := h.max
  have CR : Hid (∀ W, Calls Try.prog 51 #[.int .i64 T.a, .int .i64 T.d, .int .i64 n, .int .i64 4194304] W fun e w' => e = .returned (.bool (rightB T.a T.d n 4194304)) ∧ W = w') := fun W => right_any T.a T.d n W h.a0 h.a1 h.d0 h.d1 (by omega) (by omega)
  obtain ⟨R, hR⟩ : ∃ R, R = rightB T.a T.d n 4194304 := ⟨_, rfl⟩
  rw [← hR] at CR
  have HR := hide hR
  clear hR h
  by_cases h1 : 0 ≤ T.x
  · by_cases h2 : 0 ≤ T.y
    · go_enter Try.func38, Try.ntmps38
      go_wp2_with (go_at_call 51; refine (CR.out _).mono ?_; rintro e w1 ⟨rfl, rfl⟩)
      go_ret
      exact ⟨bool_ret (by rw [HR.out]; simp [tileB, h1, h2]), (Below.refl _ _).alloc (Nat.le_refl _) _⟩
    · go_enter Try.func38, Try.ntmps38
      go_wp2_with (go_at_call 51; refine (CR.out _).mono ?_; rintro e w1 ⟨rfl, rfl⟩)
      go_ret
      exact ⟨bool_ret (by simp [tileB]; omega), (Below.refl _ _).alloc (Nat.le_refl _) _⟩
  · go_enter Try.func38, Try.ntmps38
    go_wp2_with (go_at_call 51; refine (CR.out _).mono ?_; rintro e w1 ⟨rfl, rfl⟩)
    go_ret
    exact ⟨bool_ret (by simp [tileB]; omega), (Below.refl _ _).alloc (Nat.le_refl _) _⟩
end Go.Proofs.Ytbhgcbgaadnfpaa
