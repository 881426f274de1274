/- picture.Same and the laws' own 'awake', walked. -/
import Derived.Test.YtbhgcbgaadnfpaaPicR
import Derived.Test.YtbhgcbgaadnfpaaPicX
namespace Go.Proofs.Ytbhgcbgaadnfpaa
open Go.RowKit

def sameB (a d a' d' : Int) (g g' : List UInt8) : Bool := a == a' && (d == d' && g == g')

theorem same_upto {g g' : List UInt8} (hl : g.length = g'.length) (h : ∀ i, i < g.length → g[i]? = g'[i]?) : g = g' := by
  apply List.ext_getElem? 
  intro i
  rcases Nat.lt_or_ge i g.length with hi | hi
  · exact h i hi
  · rw [List.getElem?_eq_none hi, List.getElem?_eq_none (by omega)]

theorem byte_at {W : World} {A : Option Addr} {g : List UInt8} (h : Row W A (bytesV g)) {k : Nat} (hk : k < g.length) : ∃ b off, A = some ⟨b, off, none⟩ ∧ ∀ (j : Nat) (y : UInt8), g[j]? = some y → W.cell? ⟨b, off + j, none⟩ = some (.int .u8 (y.toNat : Int)) := by
  rcases h with h | ⟨b, off, hA, hc⟩
  · have : g = [] := by simpa [bytesV] using h
    subst this
    simp at hk
  · exact ⟨b, off, hA, fun j y hy => hc j _ (by simp [bytesV, hy])⟩

set_option maxRecDepth 100000 in
set_option maxHeartbeats 400000 in
theorem same_any (a d a' d' : Int) (A A' : Option Addr) (n c n' c' : Nat) (g g' : List UInt8) (w : World) (hn : n ≤ 9223372036854775807) (hl : g.length = n) (hl' : g'.length = n') (hr : Row w A (bytesV g)) (hr' : Row w A' (bytesV g')) :
    Calls Try.prog 21 #[.agg #[.int .i64 a, .int .i64 d, .slice A n c], .agg #[.int .i64 a', .int .i64 d', .slice A' n' c']] w fun e w' => e = .returned (.bool (sameB a d a' d' g g')) ∧ Kept w w' := by
  have hk : ∀ o1 o2, Kept w ((w.alloc o1).alloc o2) := fun o1 o2 => ((Below.refl _ _).alloc (Nat.le_refl _) _).alloc (by simp) _
  by_cases e1 : a = a'
  · by_cases e2 : d = d'
    · by_cases e3 : n = n'
      · subst e1 e2 e3
        have HL := hide (And.intro hl hl')
        have b1 : (a != a) = false := by simp
        have b2 : (d != d) = false := by simp
        have b3 : ((n : Int) != n) = false := by simp
        have HR := hide (And.intro hr hr')
        clear hl hl' hr hr' hk
        go_enter Try.func21, Try.ntmps21
        go_wp2
        go_loop [31] (fun ix => ∃ k : Nat, k ≤ n ∧ ix = .int .i64 k ∧ Hid (∀ i, i < k → g[i]? = g'[i]?)) (fun ix => n - (intOf ix).toNat)
        case atStart => exact ⟨0, by omega, rfl, fun i hi => by omega⟩
        case round =>
          obtain ⟨k, hkn, rfl, HI⟩ := hrel
          by_cases hlt : k < n
          · have hlti : (k : Int) < n := by omega
            obtain ⟨b, off, rfl, hc⟩ := byte_at HR.out.1 (k := k) (by rw [HL.out.1]; exact hlt)
            obtain ⟨b', off', rfl, hc'⟩ := byte_at HR.out.2 (k := k) (by rw [HL.out.2]; exact hlt)
            obtain ⟨x, hx⟩ : ∃ x, g[k]? = some x := ⟨_, List.getElem?_eq_getElem (by rw [HL.out.1]; exact hlt)⟩
            obtain ⟨y, hy⟩ : ∃ y, g'[k]? = some y := ⟨_, List.getElem?_eq_getElem (by rw [HL.out.2]; exact hlt)⟩
            have cx := hc k x hx
            have cy := hc' k y hy
            have hbx := lt_of_cell cx
            have hby := lt_of_cell cy
            have e : (x.toNat : Int) = (y.toNat : Int) ↔ x = y := by
              constructor
              · intro h; exact UInt8.toNat_inj.1 (by omega)
              · intro h; rw [h]
            by_cases hxy : x = y
            · have t1 : ((x.toNat : Int) != (y.toNat : Int)) = false := by simp [hxy]
              have HN : Hid (∀ i, i < k + 1 → g[i]? = g'[i]?) := fun i hi => by
                by_cases hik : i = k
                · subst hik; rw [hx, hy, hxy]
                · exact HI.out i (by omega)
              clear hxy hc hc' hx hy e
              go_wp2
              go_round
              case rel => exact ⟨k + 1, by omega, by go_num, HN⟩
              case measure => simp [intOf]; omega
            · have t1 : ((x.toNat : Int) != (y.toNat : Int)) = true := by rw [bne_iff_ne]; exact fun h => hxy (e.1 h)
              have HF : Hid (g ≠ g') := fun h => hxy (by rw [h, hy] at hx; exact (Option.some.inj hx).symm)
              clear hxy hc hc' hx hy e
              go_wp2
              go_ret
              exact ⟨bool_ret (by simp [sameB, HF.out]), ((Below.refl _ _).alloc (Nat.le_refl _) _).alloc (by simp) _⟩
          · have hge : ¬ (k : Int) < n := by omega
            have HF : Hid (g = g') := same_upto (by rw [HL.out.1, HL.out.2]) (fun i hi => HI.out i (by have := HL.out.1; omega))
            go_wp2
            go_ret
            exact ⟨bool_ret (by simp [sameB, HF.out]), ((Below.refl _ _).alloc (Nat.le_refl _) _).alloc (by simp) _⟩
      · have b1 : (a != a') = false := by simp [e1]
        have b2 : (d != d') = false := by simp [e2]
        have b3 : ((n : Int) != n') = true := by simp; omega
        have HE := hide (And.intro hl (And.intro hl' e3))
        clear e1 e2 e3 hl hl'
        go_enter Try.func21, Try.ntmps21
        go_wp2
        go_ret
        exact ⟨bool_ret (by
          have : (g == g') = false := by
            rw [beq_eq_false_iff_ne]
            intro h
            exact HE.out.2.2 (by rw [← HE.out.1, ← HE.out.2.1, h])
          simp [sameB, this]), hk _ _⟩
    · have b1 : (a != a') = false := by simp [e1]
      have b2 : (d != d') = true := by simp [e2]
      have HE := hide e2
      clear e1 e2
      go_enter Try.func21, Try.ntmps21
      go_wp2
      go_ret
      exact ⟨bool_ret (by simp [sameB, HE.out]), hk _ _⟩
  · have b1 : (a != a') = true := by simp [e1]
    have HE := hide e1
    clear e1
    go_enter Try.func21, Try.ntmps21
    go_wp2
    go_ret
    exact ⟨bool_ret (by simp [sameB, HE.out]), hk _ _⟩

theorem write_three : writeL 3 1 [7, 7, 9] = [70, 76, 80, 1, 0, 0, 0, 3, 0, 0, 0, 1, 2, 7, 1, 9] := by decide +kernel
theorem read_three : readS [70, 76, 80, 1, 0, 0, 0, 3, 0, 0, 0, 1, 2, 7, 1, 9] = some (3, 1, [7, 7, 9]) := by decide +kernel

def P3 : PicD := ⟨3, 1, [7, 7, 9]⟩
theorem pics_three {W : World} {A B : Option Addr} (hA : Row W A (bytesV [7, 7, 9])) (hB : Row W B (bytesV [7, 7, 9])) (t : TypeId) :
    Pics (W.alloc (.cells #[.int .i64 3, .int .i64 1, .slice A 3 3, .int .i64 3, .int .i64 1, .slice B 3 3] t)) (some ⟨W.heap.size, 0, none⟩) [P3, P3] := by
  refine .inr ⟨W.heap.size, 0, rfl, fun k p hp => ?_⟩
  have ok : ∀ {C : Option Addr}, Row W C (bytesV [7, 7, 9]) → PicAt (W.alloc (.cells #[.int .i64 3, .int .i64 1, .slice A 3 3, .int .i64 3, .int .i64 1, .slice B 3 3] t)) P3 C 3 3 := fun h =>
    ⟨rfl, Nat.le_refl _, by omega, h.alloc _, by decide, by decide, by decide, by decide⟩
  match k, hp with
  | 0, hp =>
    obtain rfl : P3 = p := by simpa using hp
    exact ⟨A, 3, 3, by simp [P3], by simp [P3], by simp, ok hA⟩
  | 1, hp =>
    obtain rfl : P3 = p := by simpa using hp
    exact ⟨B, 3, 3, by simp [P3], by simp [P3], by simp, ok hB⟩
  | k + 2, hp => simp at hp

set_option maxRecDepth 100000 in
set_option maxHeartbeats 800000 in
theorem awake_any (w : World) : Calls Try.prog 19 #[] w fun e w' => e = .returned (.bool true) ∧ Kept w w' := by
  have cw : ∀ W A, Row W A (bytesV [7, 7, 9]) → Calls Try.prog 13 #[.agg #[.int .i64 3, .int .i64 1, .slice A 3 3]] W fun e w' => e = .returned (.tuple #[.string ⟨#[70, 76, 80, 1, 0, 0, 0, 3, 0, 0, 0, 1, 2, 7, 1, 9]⟩, .int .i64 0]) ∧ Kept W w' := fun W A hA => by
    have := write_good 3 1 A 3 3 [7, 7, 9] W (by decide) (by omega) rfl hA
    rwa [show (3 : Int).toNat = 3 from rfl, show (1 : Int).toNat = 1 from rfl, write_three] at this
  have cr : ∀ W, Calls Try.prog 15 #[.string ⟨#[70, 76, 80, 1, 0, 0, 0, 3, 0, 0, 0, 1, 2, 7, 1, 9]⟩] W (ReadPost W (some (3, 1, [7, 7, 9]))) := fun W => by
    have := read_any ⟨#[70, 76, 80, 1, 0, 0, 0, 3, 0, 0, 0, 1, 2, 7, 1, 9]⟩ W (by decide)
    rwa [read_three] at this
  have ce : ∀ W, Calls Try.prog 15 #[.string ⟨#[]⟩] W (ReadPost W none) := fun W => by
    have := read_any ⟨#[]⟩ W (by decide)
    rwa [show readS (ByteArray.mk #[]).data.toList = none from by decide +kernel] at this
  have cb : ∀ W A, Pics W A [P3, P3] → Calls Try.prog 31 #[.slice A 2 2] W fun e w' => ∃ v, e = .returned (.tuple #[.agg #[.int .i64 3, .int .i64 2, v], .int .i64 0]) ∧ Own w' W.heap.size 1 v 6 (bytesV [7, 7, 9, 7, 7, 9]) ∧ Kept W w' := fun W A hA => by
    have h := below_any A 2 [P3, P3] W hA (by decide)
    rw [show belowE [P3, P3] = 0 from by decide +kernel, show belowP [P3, P3] = ⟨3, 2, [7, 7, 9, 7, 7, 9]⟩ from rfl] at h
    exact h
  have CB := hide cb
  have CW := hide cw
  have CR := hide cr
  have CE := hide ce
  clear cw cr ce cb
  go_enter Try.func19, Try.ntmps19
  go_wp2_with fail
  refine (three_any _).mono ?_
  rintro e w1 ⟨A1, rfl, hr1, hk1⟩
  go_wp2_with fail
  refine (CW.out _ _ hr1).mono ?_
  rintro e w2 ⟨rfl, hk2⟩
  go_wp2_with fail
  refine (CR.out _).mono ?_
  rintro e w3 ⟨v3, rfl, ho3, hk3⟩
  obtain ⟨A3, c3, rfl, -, -, hr3, -, -⟩ := ho3.form
  have HA := hide (And.intro hr3 (hk1.trans (((hk2.mono hk1.size)).trans (hk3.mono (Nat.le_trans hk1.size hk2.size)))))
  clear hr1 hk1 hk2 hk3 ho3 hr3
  go_wp2_with fail
  refine (three_any _).mono ?_
  rintro e w4 ⟨A4, rfl, hr4, hk4⟩
  go_wp2_with fail
  refine (three_any _).mono ?_
  rintro e w5 ⟨A5, rfl, hr5, hk5⟩
  go_wp2_with fail
  refine (CB.out _ _ (pics_three (hr4.kept hk5) hr5 24)).mono ?_
  rintro e w6 ⟨v6, rfl, ho6, hk6⟩
  obtain ⟨A6, c6, rfl, -, -, -, -, -⟩ := ho6.form
  have z3 := hk4.size
  have z4 := hk5.size
  have z5 := hk6.size
  simp at z3 z5
  have hk6' : Below (w3.heap.size + 1) (w3.alloc (.cells #[.int .i64 3, .int .i64 1, .slice A3 3 c3] 24)) w6 := (hk4.mono (by simp)).trans ((hk5.mono (by omega)).trans (((Below.refl _ _).alloc (by omega) _).trans (hk6.mono (by simp; omega))))
  have H6 := hide hk6'
  clear hr4 hr5 hk4 hk5 hk6 ho6 hk6'
  go_wp2_with fail
  refine (CE.out _).mono ?_
  rintro e w7 ⟨rfl, hk7⟩
  have z6 := hk7.size
  simp at z6
  have p3 : w7.cell? ⟨w3.heap.size, 0, none⟩ = some (.int .i64 3) := by rw [hk7.cells _ _ (by simp; omega), World.cell?_alloc_lt _ _ ⟨w3.heap.size, 0, none⟩ (by simp; omega), H6.out.cell (p := ⟨w3.heap.size, 0, none⟩) (by simp)]; simp
  have p4 : w7.cell? ⟨w3.heap.size, 1, none⟩ = some (.int .i64 1) := by rw [hk7.cells _ _ (by simp; omega), World.cell?_alloc_lt _ _ ⟨w3.heap.size, 1, none⟩ (by simp; omega), H6.out.cell (p := ⟨w3.heap.size, 1, none⟩) (by simp)]; simp
  have p5 : w7.cell? ⟨w3.heap.size, 2, none⟩ = some (.slice A3 3 c3) := by rw [hk7.cells _ _ (by simp; omega), World.cell?_alloc_lt _ _ ⟨w3.heap.size, 2, none⟩ (by simp; omega), H6.out.cell (p := ⟨w3.heap.size, 2, none⟩) (by simp)]; simp
  have q4 : w7.cell? ⟨w6.heap.size, 1, none⟩ = some (.int .i64 2) := by rw [hk7.cells _ _ (by simp)]; simp
  have q5 : w7.cell? ⟨w6.heap.size, 2, none⟩ = some (.slice A6 6 c6) := by rw [hk7.cells _ _ (by simp)]; simp
  have H7 := hide hk7
  clear hk7
  have hkA : Kept w3 w7 := (((Below.refl _ w3).alloc (Nat.le_refl _) _).trans (H6.out.mono (by omega))).trans (((Below.refl _ w6).alloc (by omega) _).trans (H7.out.mono (by simp; omega)))
  have hrow : Row w7 A3 (bytesV [7, 7, 9]) := HA.out.1.kept hkA
  have hend : Kept w w7 := HA.out.2.trans (hkA.mono HA.out.2.size)
  have hw3 : w3.heap.size < w7.heap.size := by omega
  have hw6 : w6.heap.size < w7.heap.size := by omega
  have SK : ∀ W W', (W.cell? ⟨w3.heap.size, 0, none⟩ = some (.int .i64 3) ∧ W.cell? ⟨w3.heap.size, 1, none⟩ = some (.int .i64 1) ∧ W.cell? ⟨w3.heap.size, 2, none⟩ = some (.slice A3 3 c3) ∧ W.cell? ⟨w6.heap.size, 1, none⟩ = some (.int .i64 2) ∧ W.cell? ⟨w6.heap.size, 2, none⟩ = some (.slice A6 6 c6)) → Kept W W' →
      (W'.cell? ⟨w3.heap.size, 0, none⟩ = some (.int .i64 3) ∧ W'.cell? ⟨w3.heap.size, 1, none⟩ = some (.int .i64 1) ∧ W'.cell? ⟨w3.heap.size, 2, none⟩ = some (.slice A3 3 c3) ∧ W'.cell? ⟨w6.heap.size, 1, none⟩ = some (.int .i64 2) ∧ W'.cell? ⟨w6.heap.size, 2, none⟩ = some (.slice A6 6 c6)) :=
    fun W W' ⟨a, b, c, d, e⟩ hk => ⟨(hk.cells _ _ (lt_of_cell a)).trans a, (hk.cells _ _ (lt_of_cell b)).trans b, (hk.cells _ _ (lt_of_cell c)).trans c, (hk.cells _ _ (lt_of_cell d)).trans d, (hk.cells _ _ (lt_of_cell e)).trans e⟩
  have cs : ∀ W A B, Row W A (bytesV [7, 7, 9]) → Row W B (bytesV [7, 7, 9]) → Calls Try.prog 21 #[.agg #[.int .i64 3, .int .i64 1, .slice A 3 c3], .agg #[.int .i64 3, .int .i64 1, .slice B 3 3]] W fun e w' => e = .returned (.bool true) ∧ Kept W w' := fun W A B hA hB => by
    have h := same_any 3 1 3 1 A B 3 c3 3 3 [7, 7, 9] [7, 7, 9] W (by omega) rfl rfl hA hB
    rwa [show sameB 3 1 3 1 [7, 7, 9] [7, 7, 9] = true from by decide] at h
  have csh : ∀ W, Calls Try.prog 23 #[.agg #[.int .u8 2, .int .i64 3, .int .i64 0]] W fun e w' => e = .returned (.int .u8 252) ∧ Kept W w' := fun W => by
    have h := shade_any 2 3 0 W (by omega) (by omega) (by omega) (by omega)
    rwa [show shadeI 2 3 = 252 from by decide] at h
  have s0 : ((w7.alloc (.cells #[.int .i64 0, .int .i64 0, .slice none 0 0] 24)).drew.cell? ⟨w3.heap.size, 0, none⟩ = some (.int .i64 3) ∧ (w7.alloc (.cells #[.int .i64 0, .int .i64 0, .slice none 0 0] 24)).drew.cell? ⟨w3.heap.size, 1, none⟩ = some (.int .i64 1) ∧ (w7.alloc (.cells #[.int .i64 0, .int .i64 0, .slice none 0 0] 24)).drew.cell? ⟨w3.heap.size, 2, none⟩ = some (.slice A3 3 c3) ∧ (w7.alloc (.cells #[.int .i64 0, .int .i64 0, .slice none 0 0] 24)).drew.cell? ⟨w6.heap.size, 1, none⟩ = some (.int .i64 2) ∧ (w7.alloc (.cells #[.int .i64 0, .int .i64 0, .slice none 0 0] 24)).drew.cell? ⟨w6.heap.size, 2, none⟩ = some (.slice A6 6 c6)) :=
    ⟨(World.cell?_alloc_lt w7 _ ⟨_, _, none⟩ hw3).trans p3, (World.cell?_alloc_lt w7 _ ⟨_, _, none⟩ hw3).trans p4, (World.cell?_alloc_lt w7 _ ⟨_, _, none⟩ hw3).trans p5, (World.cell?_alloc_lt w7 _ ⟨_, _, none⟩ hw6).trans q4, (World.cell?_alloc_lt w7 _ ⟨_, _, none⟩ hw6).trans q5⟩
  have S0 := hide s0
  have SKH := hide SK
  have CS := hide cs
  have CSH := hide csh
  have HEND := hide hend
  have HROW := hide (hrow.alloc (.cells #[.int .i64 0, .int .i64 0, .slice none 0 0] 24))
  clear s0 SK cs csh hend hrow hkA HA H6 H7 CB CW CR CE z3 z4 z5 z6
  go_wp2_with fail
  refine wp_region_L (fun W => W.cell? ⟨w3.heap.size, 0, none⟩ = some (.int .i64 3) ∧ W.cell? ⟨w3.heap.size, 1, none⟩ = some (.int .i64 1) ∧ W.cell? ⟨w3.heap.size, 2, none⟩ = some (.slice A3 3 c3) ∧ W.cell? ⟨w6.heap.size, 1, none⟩ = some (.int .i64 2) ∧ W.cell? ⟨w6.heap.size, 2, none⟩ = some (.slice A6 6 c6)) 999 (by kernel_rfl) ?_ (fun hHeld => ?_)
  · first | exact S0.out | exact SKH.out _ _ hHeld (by assumption) | assumption
  refine wpAnyL_take (i := 0) (v := ?_) (some 30) rfl rfl (by kernel_rfl) (by kernel_rfl) (by kernel_rfl) (by kernel_rfl) (fun _ _ _ h => h) (Or.inl ⟨by rfl, ?_⟩) (by assumption) ?_
  rotate_left
  · intro w hSw; (try dsimp only at hSw); go_simp; (try with_reducible rfl)
  try simp only [Act.put, List.setIfInBounds_toArray, List.set_cons_zero, List.set_cons_succ]
  refine wpAnyL_take (i := 1) (v := ?_) (some 31) rfl rfl (by kernel_rfl) (by kernel_rfl) (by kernel_rfl) (by kernel_rfl) (fun _ _ _ h => h) (Or.inl ⟨by rfl, ?_⟩) (by assumption) ?_
  rotate_left
  · intro w hSw; (try dsimp only at hSw); go_simp; (try with_reducible rfl)
  try simp only [Act.put, List.setIfInBounds_toArray, List.set_cons_zero, List.set_cons_succ]
  refine wpAnyL_take (i := 2) (v := ?_) (some 32) rfl rfl (by kernel_rfl) (by kernel_rfl) (by kernel_rfl) (by kernel_rfl) (fun _ _ _ h => h) (Or.inl ⟨by rfl, ?_⟩) (by assumption) ?_
  rotate_left
  · intro w hSw; (try dsimp only at hSw); go_simp; (try with_reducible rfl)
  try simp only [Act.put, List.setIfInBounds_toArray, List.set_cons_zero, List.set_cons_succ]
  refine wpAnyL_take (i := 3) (v := ?_) (some 33) rfl rfl (by kernel_rfl) (by kernel_rfl) (by kernel_rfl) (by kernel_rfl) (fun _ _ _ h => h) (Or.inl ⟨by rfl, ?_⟩) (by assumption) ?_
  rotate_left
  · intro w hSw; (try dsimp only at hSw); go_simp; (try with_reducible rfl)
  try simp only [Act.put, List.setIfInBounds_toArray, List.set_cons_zero, List.set_cons_succ]
  refine wpAnyL_take (i := 4) (v := Value.bool true) (some 34) rfl rfl (by kernel_rfl) (by kernel_rfl) (by kernel_rfl) (by kernel_rfl) (fun _ _ _ h => h) (Or.inl ⟨by rfl, ?_⟩) (by assumption) ?_
  · intro w hSw; (try dsimp only at hSw); go_simp
  try simp only [Act.put, List.setIfInBounds_toArray, List.set_cons_zero, List.set_cons_succ]
  refine wpAnyL_take (i := 5) (v := ?_) (some 35) rfl rfl (by kernel_rfl) (by kernel_rfl) (by kernel_rfl) (by kernel_rfl) (fun _ _ _ h => h) (Or.inl ⟨by rfl, ?_⟩) (by assumption) ?_
  rotate_left
  · intro w hSw; (try dsimp only at hSw); go_simp; (try with_reducible rfl)
  try simp only [Act.put, List.setIfInBounds_toArray, List.set_cons_zero, List.set_cons_succ]
  refine wpAnyL_take (i := 6) (v := ?_) (some 36) rfl rfl (by kernel_rfl) (by kernel_rfl) (by kernel_rfl) (by kernel_rfl) (fun _ _ _ h => h) (Or.inl ⟨by rfl, ?_⟩) (by assumption) ?_
  rotate_left
  · intro w hSw; (try dsimp only at hSw); go_simp; (try with_reducible rfl)
  try simp only [Act.put, List.setIfInBounds_toArray, List.set_cons_zero, List.set_cons_succ]
  refine wpAnyL_take (i := 7) (v := ?_) (some 37) rfl rfl (by kernel_rfl) (by kernel_rfl) (by kernel_rfl) (by kernel_rfl) (fun _ _ _ h => h) (Or.inl ⟨by rfl, ?_⟩) (by assumption) ?_
  rotate_left
  · intro w hSw; (try dsimp only at hSw); go_simp; (try with_reducible rfl)
  try simp only [Act.put, List.setIfInBounds_toArray, List.set_cons_zero, List.set_cons_succ]
  refine wpAnyL_take (i := 8) (v := ?_) (some 38) rfl rfl (by kernel_rfl) (by kernel_rfl) (by kernel_rfl) (by kernel_rfl) (fun _ _ _ h => h) (Or.inl ⟨by rfl, ?_⟩) (by assumption) ?_
  rotate_left
  · intro w hSw; (try dsimp only at hSw); go_simp; (try with_reducible rfl)
  try simp only [Act.put, List.setIfInBounds_toArray, List.set_cons_zero, List.set_cons_succ]
  refine wpAnyL_take (i := 9) (v := ?_) (some 39) rfl rfl (by kernel_rfl) (by kernel_rfl) (by kernel_rfl) (by kernel_rfl) (fun _ _ _ h => h) (Or.inl ⟨by rfl, ?_⟩) (by assumption) ?_
  rotate_left
  · intro w hSw; (try dsimp only at hSw); go_simp; (try with_reducible rfl)
  try simp only [Act.put, List.setIfInBounds_toArray, List.set_cons_zero, List.set_cons_succ]
  refine wpAnyL_take (i := 10) (v := ?_) (some 40) rfl rfl (by kernel_rfl) (by kernel_rfl) (by kernel_rfl) (by kernel_rfl) (fun _ _ _ h => h) (Or.inl ⟨by rfl, ?_⟩) (by assumption) ?_
  rotate_left
  · intro w hSw; (try dsimp only at hSw); go_simp; (try with_reducible rfl)
  try simp only [Act.put, List.setIfInBounds_toArray, List.set_cons_zero, List.set_cons_succ]
  refine wpAnyL_take (i := 11) (v := ?_) (some 41) rfl rfl (by kernel_rfl) (by kernel_rfl) (by kernel_rfl) (by kernel_rfl) (fun _ _ _ h => h) (Or.inl ⟨by rfl, ?_⟩) (by assumption) ?_
  rotate_left
  · intro w hSw; (try dsimp only at hSw); go_simp; (try with_reducible rfl)
  try simp only [Act.put, List.setIfInBounds_toArray, List.set_cons_zero, List.set_cons_succ]
  refine wpAnyL_one (i := 12) (by kernel_rfl) rfl (fun K hK => ?_)
  go_simp
  (refine (three_any _).mono ?_; rintro e w8 ⟨A8, rfl, hr8, hk8⟩)
  refine hK.out _ _ ?_ (fun hHeld => ?_)
  · first | exact S0.out | exact SKH.out _ _ hHeld (by assumption) | assumption
  clear hK K
  try simp only [Act.put, List.setIfInBounds_toArray, List.set_cons_zero, List.set_cons_succ]
  refine wpAnyL_one (i := 13) (by kernel_rfl) rfl (fun K hK => ?_)
  go_simp
  (refine (CS.out _ _ _ (HROW.out.drew.kept hk8) hr8).mono ?_; rintro e w9 ⟨rfl, hk9⟩)
  refine hK.out _ _ ?_ (fun hHeld => ?_)
  · first | exact S0.out | exact SKH.out _ _ hHeld (by assumption) | assumption
  clear hK K
  try simp only [Act.put, List.setIfInBounds_toArray, List.set_cons_zero, List.set_cons_succ]
  refine wpAnyL_take (i := 14) (v := ?_) (some 44) rfl rfl (by kernel_rfl) (by kernel_rfl) (by kernel_rfl) (by kernel_rfl) (fun _ _ _ h => h) (Or.inl ⟨by rfl, ?_⟩) (by assumption) ?_
  rotate_left
  · intro w hSw; (try dsimp only at hSw); go_simp; (try with_reducible rfl)
  try simp only [Act.put, List.setIfInBounds_toArray, List.set_cons_zero, List.set_cons_succ]
  refine wpAnyL_take (i := 15) (v := ?_) (some 45) rfl rfl (by kernel_rfl) (by kernel_rfl) (by kernel_rfl) (by kernel_rfl) (fun _ _ _ h => h) (Or.inl ⟨by rfl, ?_⟩) (by assumption) ?_
  rotate_left
  · intro w hSw; (try dsimp only at hSw); go_simp; (try with_reducible rfl)
  try simp only [Act.put, List.setIfInBounds_toArray, List.set_cons_zero, List.set_cons_succ]
  refine wpAnyL_take (i := 16) (v := ?_) (some 46) rfl rfl (by kernel_rfl) (by kernel_rfl) (by kernel_rfl) (by kernel_rfl) (fun _ _ _ h => h) (Or.inl ⟨by rfl, ?_⟩) (by assumption) ?_
  rotate_left
  · intro w hSw; (try dsimp only at hSw); go_simp; (try with_reducible rfl)
  try simp only [Act.put, List.setIfInBounds_toArray, List.set_cons_zero, List.set_cons_succ]
  refine wpAnyL_take (i := 17) (v := ?_) (some 47) rfl rfl (by kernel_rfl) (by kernel_rfl) (by kernel_rfl) (by kernel_rfl) (fun _ _ _ h => h) (Or.inl ⟨by rfl, ?_⟩) (by assumption) ?_
  rotate_left
  · intro w hSw; (try dsimp only at hSw); go_simp; (try with_reducible rfl)
  try simp only [Act.put, List.setIfInBounds_toArray, List.set_cons_zero, List.set_cons_succ]
  refine wpAnyL_take (i := 18) (v := ?_) (some 48) rfl rfl (by kernel_rfl) (by kernel_rfl) (by kernel_rfl) (by kernel_rfl) (fun _ _ _ h => h) (Or.inl ⟨by rfl, ?_⟩) (by assumption) ?_
  rotate_left
  · intro w hSw; (try dsimp only at hSw); go_simp; (try with_reducible rfl)
  try simp only [Act.put, List.setIfInBounds_toArray, List.set_cons_zero, List.set_cons_succ]
  refine wpAnyL_take (i := 19) (v := ?_) (some 49) rfl rfl (by kernel_rfl) (by kernel_rfl) (by kernel_rfl) (by kernel_rfl) (fun _ _ _ h => h) (Or.inl ⟨by rfl, ?_⟩) (by assumption) ?_
  rotate_left
  · intro w hSw; (try dsimp only at hSw); go_simp; (try with_reducible rfl)
  try simp only [Act.put, List.setIfInBounds_toArray, List.set_cons_zero, List.set_cons_succ]
  refine wpAnyL_take (i := 20) (v := ?_) (some 50) rfl rfl (by kernel_rfl) (by kernel_rfl) (by kernel_rfl) (by kernel_rfl) (fun _ _ _ h => h) (Or.inl ⟨by rfl, ?_⟩) (by assumption) ?_
  rotate_left
  · intro w hSw; (try dsimp only at hSw); go_simp; (try with_reducible rfl)
  try simp only [Act.put, List.setIfInBounds_toArray, List.set_cons_zero, List.set_cons_succ]
  refine wpAnyL_take (i := 21) (v := ?_) (some 51) rfl rfl (by kernel_rfl) (by kernel_rfl) (by kernel_rfl) (by kernel_rfl) (fun _ _ _ h => h) (Or.inl ⟨by rfl, ?_⟩) (by assumption) ?_
  rotate_left
  · intro w hSw; (try dsimp only at hSw); go_simp; (try with_reducible rfl)
  try simp only [Act.put, List.setIfInBounds_toArray, List.set_cons_zero, List.set_cons_succ]
  refine wpAnyL_take (i := 22) (v := ?_) (some 52) rfl rfl (by kernel_rfl) (by kernel_rfl) (by kernel_rfl) (by kernel_rfl) (fun _ _ _ h => h) (Or.inl ⟨by rfl, ?_⟩) (by assumption) ?_
  rotate_left
  · intro w hSw; (try dsimp only at hSw); go_simp; (try with_reducible rfl)
  try simp only [Act.put, List.setIfInBounds_toArray, List.set_cons_zero, List.set_cons_succ]
  refine wpAnyL_take (i := 23) (v := ?_) (some 53) rfl rfl (by kernel_rfl) (by kernel_rfl) (by kernel_rfl) (by kernel_rfl) (fun _ _ _ h => h) (Or.inl ⟨by rfl, ?_⟩) (by assumption) ?_
  rotate_left
  · intro w hSw; (try dsimp only at hSw); go_simp; (try with_reducible rfl)
  try simp only [Act.put, List.setIfInBounds_toArray, List.set_cons_zero, List.set_cons_succ]
  refine wpAnyL_take (i := 24) (v := ?_) (some 54) rfl rfl (by kernel_rfl) (by kernel_rfl) (by kernel_rfl) (by kernel_rfl) (fun _ _ _ h => h) (Or.inl ⟨by rfl, ?_⟩) (by assumption) ?_
  rotate_left
  · intro w hSw; (try dsimp only at hSw); go_simp; (try with_reducible rfl)
  try simp only [Act.put, List.setIfInBounds_toArray, List.set_cons_zero, List.set_cons_succ]
  refine wpAnyL_take (i := 25) (v := ?_) (some 55) rfl rfl (by kernel_rfl) (by kernel_rfl) (by kernel_rfl) (by kernel_rfl) (fun _ _ _ h => h) (Or.inl ⟨by rfl, ?_⟩) (by assumption) ?_
  rotate_left
  · intro w hSw; (try dsimp only at hSw); go_simp; (try with_reducible rfl)
  try simp only [Act.put, List.setIfInBounds_toArray, List.set_cons_zero, List.set_cons_succ]
  refine wpAnyL_take (i := 26) (v := ?_) (some 56) rfl rfl (by kernel_rfl) (by kernel_rfl) (by kernel_rfl) (by kernel_rfl) (fun _ _ _ h => h) (Or.inl ⟨by rfl, ?_⟩) (by assumption) ?_
  rotate_left
  · intro w hSw; (try dsimp only at hSw); go_simp; (try with_reducible rfl)
  try simp only [Act.put, List.setIfInBounds_toArray, List.set_cons_zero, List.set_cons_succ]
  refine wpAnyL_take (i := 27) (v := ?_) (some 57) rfl rfl (by kernel_rfl) (by kernel_rfl) (by kernel_rfl) (by kernel_rfl) (fun _ _ _ h => h) (Or.inl ⟨by rfl, ?_⟩) (by assumption) ?_
  rotate_left
  · intro w hSw; (try dsimp only at hSw); go_simp; (try with_reducible rfl)
  try simp only [Act.put, List.setIfInBounds_toArray, List.set_cons_zero, List.set_cons_succ]
  refine wpAnyL_take (i := 28) (v := ?_) (some 58) rfl rfl (by kernel_rfl) (by kernel_rfl) (by kernel_rfl) (by kernel_rfl) (fun _ _ _ h => h) (Or.inl ⟨by rfl, ?_⟩) (by assumption) ?_
  rotate_left
  · intro w hSw; (try dsimp only at hSw); go_simp; (try with_reducible rfl)
  try simp only [Act.put, List.setIfInBounds_toArray, List.set_cons_zero, List.set_cons_succ]
  refine wpAnyL_take (i := 29) (v := ?_) (some 59) rfl rfl (by kernel_rfl) (by kernel_rfl) (by kernel_rfl) (by kernel_rfl) (fun _ _ _ h => h) (Or.inl ⟨by rfl, ?_⟩) (by assumption) ?_
  rotate_left
  · intro w hSw; (try dsimp only at hSw); go_simp; (try with_reducible rfl)
  try simp only [Act.put, List.setIfInBounds_toArray, List.set_cons_zero, List.set_cons_succ]
  refine wpAnyL_take (i := 30) (v := ?_) (some 60) rfl rfl (by kernel_rfl) (by kernel_rfl) (by kernel_rfl) (by kernel_rfl) (fun _ _ _ h => h) (Or.inl ⟨by rfl, ?_⟩) (by assumption) ?_
  rotate_left
  · intro w hSw; (try dsimp only at hSw); go_simp; (try with_reducible rfl)
  try simp only [Act.put, List.setIfInBounds_toArray, List.set_cons_zero, List.set_cons_succ]
  refine wpAnyL_take (i := 31) (v := ?_) (some 61) rfl rfl (by kernel_rfl) (by kernel_rfl) (by kernel_rfl) (by kernel_rfl) (fun _ _ _ h => h) (Or.inl ⟨by rfl, ?_⟩) (by assumption) ?_
  rotate_left
  · intro w hSw; (try dsimp only at hSw); go_simp; (try with_reducible rfl)
  try simp only [Act.put, List.setIfInBounds_toArray, List.set_cons_zero, List.set_cons_succ]
  refine wpAnyL_take (i := 32) (v := ?_) (some 62) rfl rfl (by kernel_rfl) (by kernel_rfl) (by kernel_rfl) (by kernel_rfl) (fun _ _ _ h => h) (Or.inl ⟨by rfl, ?_⟩) (by assumption) ?_
  rotate_left
  · intro w hSw; (try dsimp only at hSw); go_simp; (try with_reducible rfl)
  try simp only [Act.put, List.setIfInBounds_toArray, List.set_cons_zero, List.set_cons_succ]
  refine wpAnyL_take (i := 33) (v := ?_) (some 63) rfl rfl (by kernel_rfl) (by kernel_rfl) (by kernel_rfl) (by kernel_rfl) (fun _ _ _ h => h) (Or.inl ⟨by rfl, ?_⟩) (by assumption) ?_
  rotate_left
  · intro w hSw; (try dsimp only at hSw); go_simp; (try with_reducible rfl)
  try simp only [Act.put, List.setIfInBounds_toArray, List.set_cons_zero, List.set_cons_succ]
  refine wpAnyL_take (i := 34) (v := ?_) (some 64) rfl rfl (by kernel_rfl) (by kernel_rfl) (by kernel_rfl) (by kernel_rfl) (fun _ _ _ h => h) (Or.inl ⟨by rfl, ?_⟩) (by assumption) ?_
  rotate_left
  · intro w hSw; (try dsimp only at hSw); go_simp; (try with_reducible rfl)
  try simp only [Act.put, List.setIfInBounds_toArray, List.set_cons_zero, List.set_cons_succ]
  refine wpAnyL_take (i := 35) (v := ?_) (some 65) rfl rfl (by kernel_rfl) (by kernel_rfl) (by kernel_rfl) (by kernel_rfl) (fun _ _ _ h => h) (Or.inl ⟨by rfl, ?_⟩) (by assumption) ?_
  rotate_left
  · intro w hSw; (try dsimp only at hSw); go_simp; (try with_reducible rfl)
  try simp only [Act.put, List.setIfInBounds_toArray, List.set_cons_zero, List.set_cons_succ]
  refine wpAnyL_one (i := 36) (by kernel_rfl) rfl (fun K hK => ?_)
  go_simp
  (refine (CSH.out _).mono ?_; rintro e w10 ⟨rfl, hk10⟩)
  refine hK.out _ _ ?_ (fun hHeld => ?_)
  · first | exact S0.out | exact SKH.out _ _ hHeld (by assumption) | assumption
  clear hK K
  try simp only [Act.put, List.setIfInBounds_toArray, List.set_cons_zero, List.set_cons_succ]
  refine wpAnyL_take (i := 37) (v := ?_) (some 67) rfl rfl (by kernel_rfl) (by kernel_rfl) (by kernel_rfl) (by kernel_rfl) (fun _ _ _ h => h) (Or.inl ⟨by rfl, ?_⟩) (by assumption) ?_
  rotate_left
  · intro w hSw; (try dsimp only at hSw); go_simp; (try with_reducible rfl)
  try simp only [Act.put, List.setIfInBounds_toArray, List.set_cons_zero, List.set_cons_succ]
  refine wpAnyL_take (i := 38) (v := ?_) (some 68) rfl rfl (by kernel_rfl) (by kernel_rfl) (by kernel_rfl) (by kernel_rfl) (fun _ _ _ h => h) (Or.inl ⟨by rfl, ?_⟩) (by assumption) ?_
  rotate_left
  · intro w hSw; (try dsimp only at hSw); go_simp; (try with_reducible rfl)
  try simp only [Act.put, List.setIfInBounds_toArray, List.set_cons_zero, List.set_cons_succ]
  refine wpAnyL_one (i := 39) (by kernel_rfl) rfl (fun K hK => ?_)
  go_simp
  refine hK.out _ _ ?_ (fun hHeld => ?_)
  · first | exact S0.out | exact SKH.out _ _ hHeld (by assumption) | assumption
  clear hK K
  try simp only [Act.put, List.setIfInBounds_toArray, List.set_cons_zero, List.set_cons_succ]
  refine wpAnyL_done (by kernel_rfl) ?_ _
  go_wp2
  go_ret
  exact ⟨rfl, ((HEND.out.alloc HEND.out.size _).drew.trans (hk8.mono (by have := HEND.out.size; simp; omega))).trans ((hk9.mono (by have := HEND.out.size; have := hk8.size; simp at this; omega)).trans (hk10.mono (by have := HEND.out.size; have := hk8.size; have := hk9.size; simp at *; omega)))⟩
end Go.Proofs.Ytbhgcbgaadnfpaa
