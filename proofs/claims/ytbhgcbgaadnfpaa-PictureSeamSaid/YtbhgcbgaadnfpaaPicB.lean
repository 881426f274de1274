/- Greys, what is the same, what may be: the small functions of the pictures and of the reference, walked. -/
import Derived.Test.YtbhgcbgaadnfpaaPicA
namespace Go.Proofs.Ytbhgcbgaadnfpaa
open Go.RowKit

def toldI (g : Int) : Int := if g ≤ 100 then 1 else if 155 ≤ g then 2 else 0
def toldB (g : Int) : Bool := decide (g ≤ 100) || (decide (155 ≤ g) || decide (g = 128))
def shadeI (t s : Int) : Int := if t = 1 then min (max 0 s) 100 else if t = 2 then 255 - min (max 0 s) 100 else 128

set_option maxHeartbeats 400000 in
theorem told_any (g : Int) (w : World) (h0 : 0 ≤ g) (h1 : g ≤ 255) :
    Calls Try.prog 22 #[.int .u8 g] w fun e w' => e = .returned (.tuple #[.int .u8 (toldI g), .bool (toldB g)]) ∧ w = w' := by
  by_cases a : g ≤ 100
  · go_enter Try.func22, Try.ntmps22
    go_wp2
    go_ret2
    exact ⟨by simp [toldI, toldB, a], rfl⟩
  · by_cases b : 155 ≤ g
    · go_enter Try.func22, Try.ntmps22
      go_wp2
      go_ret2
      exact ⟨by simp [toldI, toldB, a, b], rfl⟩
    · go_enter Try.func22, Try.ntmps22
      go_wp2
      go_ret2
      exact ⟨by rw [show toldI g = 0 by unfold toldI; rw [if_neg (by omega), if_neg (by omega)], show toldB g = (g == 128) by rw [Bool.eq_iff_iff]; simp [toldB]; omega]; rfl, rfl⟩

set_option maxHeartbeats 400000 in
theorem rtold_any (g : Int) (w : World) (h0 : 0 ≤ g) (h1 : g ≤ 255) :
    Calls Try.prog 35 #[.int .u8 g] w fun e w' => e = .returned (.tuple #[.int .u8 (toldI g), .bool (toldB g)]) ∧ w = w' := by
  by_cases a : g ≤ 100
  · go_enter Try.func35, Try.ntmps35
    go_wp2
    go_ret2
    exact ⟨by simp [toldI, toldB, a], rfl⟩
  · by_cases b : 155 ≤ g
    · go_enter Try.func35, Try.ntmps35
      go_wp2
      go_ret2
      exact ⟨by simp [toldI, toldB, a, b], rfl⟩
    · go_enter Try.func35, Try.ntmps35
      go_wp2
      go_ret2
      exact ⟨by rw [show toldI g = 0 by unfold toldI; rw [if_neg (by omega), if_neg (by omega)], show toldB g = (g == 128) by rw [Bool.eq_iff_iff]; simp [toldB]; omega]; rfl, rfl⟩

set_option maxHeartbeats 400000 in
theorem shade_any (t s r : Int) (w : World) (_ : 0 ≤ t) (_ : t ≤ 255) (h2 : -9223372036854775808 ≤ s) (h3 : s ≤ 9223372036854775807) :
    Calls Try.prog 23 #[.agg #[.int .u8 t, .int .i64 s, .int .i64 r]] w fun e w' => e = .returned (.int .u8 (shadeI t s)) ∧ Kept w w' := by
  go_enter Try.func23, Try.ntmps23
  go_wp2
  all_goals
    go_ret
    refine ⟨int_ret ?_, (Below.refl _ _).alloc (Nat.le_refl _) _⟩
    simp only [beq_iff_eq, beq_eq_false_iff_ne, ne_eq] at *
    unfold shadeI
    omega

set_option maxHeartbeats 400000 in
theorem rshade_any (t s r : Int) (w : World) (_ : 0 ≤ t) (_ : t ≤ 255) (h2 : -9223372036854775808 ≤ s) (h3 : s ≤ 9223372036854775807) :
    Calls Try.prog 36 #[.agg #[.int .u8 t, .int .i64 s, .int .i64 r]] w fun e w' => e = .returned (.int .u8 (shadeI t s)) ∧ Kept w w' := by
  go_enter Try.func36, Try.ntmps36
  go_wp2
  all_goals
    go_ret
    refine ⟨int_ret ?_, (Below.refl _ _).alloc (Nat.le_refl _) _⟩
    simp only [beq_iff_eq, beq_eq_false_iff_ne, ne_eq] at *
    unfold shadeI
    omega

set_option maxHeartbeats 400000 in
theorem three_any (w : World) :
    Calls Try.prog 50 #[] w fun e w' => ∃ A, e = .returned (.agg #[.int .i64 3, .int .i64 1, .slice A 3 3]) ∧ Row w' A (bytesV [7, 7, 9]) ∧ Kept w w' := by
  go_enter Try.func50, Try.ntmps50
  go_wp2
  refine bodyPost_ret (v := .agg #[.int .i64 3, .int .i64 1, .slice (some ⟨w.heap.size + 1, 0, none⟩) 3 3]) (by simp [results, Try.results50, go_sem]) rfl ⟨_, rfl, ?_, ((Below.refl _ _).alloc (Nat.le_refl _) _).alloc (by simp) _⟩
  exact Row.new_at _ _ _ _ _ _ rfl (by simp)

theorem conv_row {P : Program} {src dst e : TypeId} (hs : P.underlying src = some (.slice e)) (he : P.underlying e = some (.int .u8)) (hd : P.underlying dst = some .string)
    {w : World} {A : Option Addr} {n c : Nat} {l : List UInt8} (hl : l.length = n) (hr : Row w A (bytesV l)) : (convert src dst (.slice A n c)).run P w = .ok (.string ⟨l.toArray⟩) w := by
  have hb : bytesV l = (l.map fun b => (b.toNat : Int)).map (Value.int .u8) := by simp [bytesV]
  rw [run_convert_bytes_string w src dst e A n c hs he hd]
  have key : ∀ a : Addr, A = some a → (loadCells a n).run P w = .ok ((l.map fun b => (b.toNat : Int)).map (Value.int .u8)).toArray w := by
    intro a ha
    have := run_loadCells_list (P := P) w a ((l.map fun b => (b.toNat : Int)).map (Value.int .u8)) (fun j v hj => by
      rw [← hb] at hj
      rcases hr with h | ⟨b, off, h, hc⟩
      · rw [h] at hj; simp at hj
      · rw [ha] at h
        injection h with h
        subst h
        rw [add_zero_addr]
        exact hc j v hj)
    simpa [hl] using this
  cases A with
  | none =>
    have : l = [] := by
      rcases hr with h | ⟨b, off, h, _⟩
      · simpa [bytesV] using h
      · cases h
    subst this
    simp [Conv.bytesToString, ByteArray.empty, ByteArray.emptyWithCapacity]
    rfl
  | some a =>
    have hid : ((fun n : Int => UInt8.ofNat n.toNat) ∘ fun b : UInt8 => (b.toNat : Int)) = id := by funext b; simp
    rw [run_bytesToString w a n c _ (key a rfl), foldl_push_bytes, List.map_map, hid]
    simp [ByteArray.empty, ByteArray.emptyWithCapacity]
    rfl

set_option maxHeartbeats 400000 in
theorem rsame_any (a d a' d' : Int) (A A' : Option Addr) (n c n' c' : Nat) (g g' : List UInt8) (w : World) (hl : g.length = n) (hl' : g'.length = n') (hr : Row w A (bytesV g)) (hr' : Row w A' (bytesV g')) :
    Calls Try.prog 25 #[.agg #[.int .i64 a, .int .i64 d, .slice A n c], .agg #[.int .i64 a', .int .i64 d', .slice A' n' c']] w fun e w' => e = .returned (.bool (a == a' && (d == d' && g == g'))) ∧ Kept w w' := by
  have k1 : ∀ o1 o2, (convert 22 9 (.slice A n c)).run Try.prog ((w.alloc o1).alloc o2) = .ok (.string ⟨g.toArray⟩) ((w.alloc o1).alloc o2) := fun o1 o2 => conv_row Try.underlying22 Try.underlying5 Try.underlying9 hl ((hr.alloc _).alloc _)
  have k2 : ∀ o1 o2, (convert 22 9 (.slice A' n' c')).run Try.prog ((w.alloc o1).alloc o2) = .ok (.string ⟨g'.toArray⟩) ((w.alloc o1).alloc o2) := fun o1 o2 => conv_row Try.underlying22 Try.underlying5 Try.underlying9 hl' ((hr'.alloc _).alloc _)
  have HL := hide hl
  have HL' := hide hl'
  clear hl hl' hr hr'
  go_enter Try.func25, Try.ntmps25
  go_wp2
  all_goals
    go_ret
    refine ⟨bool_ret ?_, ((Below.refl _ _).alloc (Nat.le_refl _) _).alloc (by simp) _⟩
    simp_all
end Go.Proofs.Ytbhgcbgaadnfpaa
