/- The law PictureCuts, walked. -/
import Derived.Test.YtbhgcbgaadnfpaaBesW
import Derived.Test.YtbhgcbgaadnfpaaPicY
namespace Go.Proofs.Ytbhgcbgaadnfpaa
open Go.RowKit

theorem PutPost.form {w w' : World} {P : PicD} {e : Ending} (h : PutPost w 0 P e w') : ∃ (A : Option Addr) (c : Nat), e = .returned (.tuple #[.agg #[.int .i64 P.a, .int .i64 P.d, .slice A P.g.length c], .int .i64 0]) ∧ Own w' w.heap.size 1 (.slice A P.g.length c) P.g.length (bytesV P.g) ∧ Kept w w' := by
  unfold PutPost at h
  rw [if_pos rfl] at h
  obtain ⟨v, rfl, ho, hk⟩ := h
  obtain ⟨A, c, rfl, -, -, -, -, -⟩ := ho.form
  exact ⟨A, c, rfl, ho, hk⟩
theorem pics_two {W : World} {p q : PicD} {A B : Option Addr} {n c m k : Nat} (hA : PicAt W p A n c) (hB : PicAt W q B m k) (t : TypeId) :
    Pics (W.alloc (.cells #[.int .i64 p.a, .int .i64 p.d, .slice A n c, .int .i64 q.a, .int .i64 q.d, .slice B m k] t)) (some ⟨W.heap.size, 0, none⟩) [p, q] := by
  have hk0 : Kept W (W.alloc (.cells #[.int .i64 p.a, .int .i64 p.d, .slice A n c, .int .i64 q.a, .int .i64 q.d, .slice B m k] t)) := (Below.refl _ _).alloc (Nat.le_refl _) _
  refine .inr ⟨W.heap.size, 0, rfl, fun i x hx => ?_⟩
  match i, hx with
  | 0, hx =>
    obtain rfl : p = x := by simpa using hx
    exact ⟨A, n, c, by simp, by simp, by simp, hA.kept hk0⟩
  | 1, hx =>
    obtain rfl : q = x := by simpa using hx
    exact ⟨B, m, k, by simp, by simp, by simp, hB.kept hk0⟩
  | i + 2, hx => simp at hx

theorem pic_at {W : World} {x y : Int} {A : Option Addr} {n c : Nat} {g : List UInt8} (hl : g.length = n) (hc : n ≤ c) (hn : n ≤ 4194304) (hr : Row W A (bytesV g)) (h1 : 0 ≤ x) (h2 : x ≤ 4194304) (h3 : 0 ≤ y) (h4 : y ≤ 4194304) : PicAt W ⟨x, y, g⟩ A n c :=
  ⟨hl, hc, by omega, hr, by show _ ≤ x; omega, by show x ≤ _; omega, by show _ ≤ y; omega, by show y ≤ _; omega⟩

theorem cut_left (an dn K : Nat) (g : List UInt8) (h : mayB an dn g.length = true) (hK : 1 ≤ K) (hKa : K + 1 ≤ an) :
    besideE [⟨(K : Int), dn, cropG an 0 K g 0 dn⟩, ⟨(an : Int) - K, dn, cropG an K (an - K) g 0 dn⟩] = 0 ∧ besideP [⟨(K : Int), dn, cropG an 0 K g 0 dn⟩, ⟨(an : Int) - K, dn, cropG an K (an - K) g 0 dn⟩] = ⟨an, dn, g⟩ ∧
      (cropG an 0 K g 0 dn).length ≤ 4194304 ∧ (cropG an K (an - K) g 0 dn).length ≤ 4194304 := by
  obtain ⟨h1, h2, h3, h4, h5, h6, h7⟩ := mayB_bounds h
  have hl : g.length = an * dn := by
    have : ((g.length : Nat) : Int) = ((an * dn : Nat) : Int) := by rw [h5, Int.natCast_mul]
    omega
  have e : (an : Int) - K = ((an - K : Nat) : Int) := by omega
  have m1 : K * dn ≤ an * dn := Nat.mul_le_mul_right _ (by omega)
  have m2 : (an - K) * dn ≤ an * dn := Nat.mul_le_mul_right _ (by omega)
  have hb : sizeB an dn = true := by simp only [mayB, Bool.and_eq_true] at h; exact h.1
  have l1 := cropG_length an 0 K dn g 0 hl (by omega) dn (by omega)
  have l2 := cropG_length an K (an - K) dn g 0 hl (by omega) dn (by omega)
  have small : ∀ (x : Nat) (l : List UInt8), 1 ≤ x → x ≤ an → l.length = dn * x → mayB x dn l.length = true := fun x l hx hxa hll => by
    have hxd : x * dn ≤ an * dn := Nat.mul_le_mul_right _ hxa
    have hz := (sizeB_iff (x : Int) dn).2 ⟨by omega, by omega, by omega, by
      refine (Int.le_ediv_iff_mul_le (by omega)).2 ?_
      have : (((dn * x : Nat)) : Int) ≤ 4194304 := by rw [Nat.mul_comm]; omega
      rwa [Int.natCast_mul] at this⟩
    simp only [mayB, hz, Bool.true_and, decide_eq_true_eq, hll, Int.natCast_mul]
    rw [Int.mul_comm]
  have a1 := small K (cropG an 0 K g 0 dn) hK (by omega) l1
  have a2 := small (an - K) (cropG an K (an - K) g 0 dn) (by omega) (by omega) l2
  rw [e]
  have sum : sumA [⟨(K : Int), dn, cropG an 0 K g 0 dn⟩, ⟨((an - K : Nat) : Int), dn, cropG an K (an - K) g 0 dn⟩] = an := by
    simp [sumA, sumI]; omega
  refine ⟨?_, ?_, by rw [l1, Nat.mul_comm]; omega, by rw [l2, Nat.mul_comm]; omega⟩
  · have hall : allE [⟨(K : Int), dn, cropG an 0 K g 0 dn⟩, ⟨((an - K : Nat) : Int), dn, cropG an K (an - K) g 0 dn⟩] = 0 := by
      unfold allE
      simp only [List.all_cons, List.all_nil, PicD.may, a1, a2, Bool.and_true, if_true]
    simp only [besideE, hall, sum, hb]
    simp
  · simp only [besideP, sum, List.headD_cons, Int.toNat_natCast]
    rw [beside_cut an dn K g hl (by omega) dn (Nat.le_refl _), rowsG_all an dn g hl]
theorem cut_above (an dn K : Nat) (g : List UInt8) (h : mayB an dn g.length = true) (hK : 1 ≤ K) (hKa : K + 1 ≤ dn) :
    belowE [⟨(an : Int), K, cropG an 0 an g 0 K⟩, ⟨(an : Int), (dn : Int) - K, cropG an 0 an g K (dn - K)⟩] = 0 ∧ belowP [⟨(an : Int), K, cropG an 0 an g 0 K⟩, ⟨(an : Int), (dn : Int) - K, cropG an 0 an g K (dn - K)⟩] = ⟨an, dn, g⟩ ∧
      (cropG an 0 an g 0 K).length ≤ 4194304 ∧ (cropG an 0 an g K (dn - K)).length ≤ 4194304 := by
  obtain ⟨h1, h2, h3, h4, h5, h6, h7⟩ := mayB_bounds h
  have hl : g.length = an * dn := by
    have : ((g.length : Nat) : Int) = ((an * dn : Nat) : Int) := by rw [h5, Int.natCast_mul]
    omega
  have e : (dn : Int) - K = ((dn - K : Nat) : Int) := by omega
  have hb : sizeB an dn = true := by simp only [mayB, Bool.and_eq_true] at h; exact h.1
  have l1 := cropG_length an 0 an dn g 0 hl (by omega) K (by omega)
  have l2 := cropG_length an 0 an dn g K hl (by omega) (dn - K) (by omega)
  have small : ∀ (x : Nat) (l : List UInt8), 1 ≤ x → x ≤ dn → l.length = x * an → mayB an x l.length = true ∧ x * an ≤ dn * an := fun x l hx hxa hll => by
    have hxd : x * an ≤ dn * an := Nat.mul_le_mul_right _ hxa
    have hz := (sizeB_iff (an : Int) x).2 ⟨by omega, by omega, by omega, by
      refine (Int.le_ediv_iff_mul_le (by omega)).2 ?_
      have : (((x * an : Nat)) : Int) ≤ 4194304 := by rw [Nat.mul_comm dn] at hxd; omega
      rwa [Int.natCast_mul] at this⟩
    refine ⟨?_, hxd⟩
    simp only [mayB, hz, Bool.true_and, decide_eq_true_eq, hll, Int.natCast_mul]
    rw [Int.mul_comm]
  have a1 := small K (cropG an 0 an g 0 K) hK (by omega) l1
  have a2 := small (dn - K) (cropG an 0 an g K (dn - K)) (by omega) (by omega) l2
  rw [e]
  have sum : sumD [⟨(an : Int), K, cropG an 0 an g 0 K⟩, ⟨(an : Int), ((dn - K : Nat) : Int), cropG an 0 an g K (dn - K)⟩] = dn := by
    simp [sumD, sumI]; omega
  have hm := Nat.mul_comm an dn
  refine ⟨?_, ?_, by rw [l1]; omega, by rw [l2]; omega⟩
  · have hall : allE [⟨(an : Int), K, cropG an 0 an g 0 K⟩, ⟨(an : Int), ((dn - K : Nat) : Int), cropG an 0 an g K (dn - K)⟩] = 0 := by
      unfold allE
      simp only [List.all_cons, List.all_nil, PicD.may, a1.1, a2.1, Bool.and_true, if_true]
    simp only [belowE, hall, sum, hb]
    simp
  · simp only [belowP, sum, List.headD_cons, allG, List.flatMap_cons, List.flatMap_nil, List.append_nil]
    rw [below_cut an dn K g hl (by omega)]

/-- What the law asks of one half: the calls of it, with short names. -/
theorem half1 (an dn : Nat) (A : Option Addr) (n cc K : Nat) (g : List UInt8) (hm : mayB an dn n = true) (hnc : n ≤ cc) (hl : g.length = n) (hK : 1 ≤ K) (hKa : K + 1 ≤ an) : ∃ (g1 g2 : List UInt8) (m1 m2 : Nat),
    (∀ W, Row W A (bytesV g) → Calls Try.prog 33 #[.agg #[.int .i64 an, .int .i64 dn, .slice A n cc], .int .i64 0, .int .i64 0, .int .i64 K, .int .i64 dn] W fun e w' => ∃ (A' : Option Addr) (c' : Nat), e = .returned (.tuple #[.agg #[.int .i64 K, .int .i64 dn, .slice A' m1 c'], .int .i64 0]) ∧ Own w' W.heap.size 1 (.slice A' m1 c') m1 (bytesV g1) ∧ Kept W w') ∧
    (∀ W, Row W A (bytesV g) → Calls Try.prog 33 #[.agg #[.int .i64 an, .int .i64 dn, .slice A n cc], .int .i64 K, .int .i64 0, .int .i64 ((an : Int) - K), .int .i64 dn] W fun e w' => ∃ (A' : Option Addr) (c' : Nat), e = .returned (.tuple #[.agg #[.int .i64 ((an : Int) - K), .int .i64 dn, .slice A' m2 c'], .int .i64 0]) ∧ Own w' W.heap.size 1 (.slice A' m2 c') m2 (bytesV g2) ∧ Kept W w') ∧
    (∀ W b A1 c1 A2 c2, b = W.heap.size → m1 ≤ c1 → m2 ≤ c2 → Row W A1 (bytesV g1) → Row W A2 (bytesV g2) → Calls Try.prog 29 #[.slice (some ⟨b, 0, none⟩) 2 2] (W.alloc (.cells #[.int .i64 K, .int .i64 dn, .slice A1 m1 c1, .int .i64 ((an : Int) - K), .int .i64 dn, .slice A2 m2 c2] 24)) fun e w' => ∃ (A' : Option Addr) (c' : Nat), e = .returned (.tuple #[.agg #[.int .i64 an, .int .i64 dn, .slice A' n c'], .int .i64 0]) ∧ Own w' (b + 1) 1 (.slice A' n c') n (bytesV g) ∧ Kept W w') := by
  have hm' : mayB an dn g.length = true := by rw [hl]; exact hm
  obtain ⟨v1, v2, v3, v4, -, v6, v7⟩ := mayB_bounds hm
  obtain ⟨k1, k2, k3, k4⟩ := cut_left an dn K g hm' hK hKa
  refine ⟨(cropG an 0 K g 0 dn), (cropG an K (an - K) g 0 dn), (cropG an 0 K g 0 dn).length, (cropG an K (an - K) g 0 dn).length, fun W hW => ?_, fun W hW => ?_, fun W b A1 c1 A2 c2 hb h1 h2 hr1 hr2 => ?_⟩
  · exact (crop_ok an dn A n cc g 0 0 K dn W hm hnc hl hW (by omega) (by omega) (by omega) (by omega)).mono fun _ _ h => h.form
  · have h := (crop_ok an dn A n cc g K 0 (an - K) dn W hm hnc hl hW (by omega) (by omega) (by omega) (by omega)).mono fun _ _ h => h.form
    rw [show ((an - K : Nat) : Int) = (an : Int) - K by omega] at h
    exact h
  · subst hb
    have h := beside_any (some ⟨W.heap.size, 0, none⟩) 2 _ _ (pics_two (p := ⟨K, dn, (cropG an 0 K g 0 dn)⟩) (q := ⟨((an : Int) - K), dn, (cropG an K (an - K) g 0 dn)⟩) (A := A1) (c := c1) (B := A2) (k := c2) (W := W) (pic_at rfl h1 (by omega) hr1 (by omega) (by omega) (by omega) (by omega)) (pic_at rfl h2 (by omega) hr2 (by omega) (by omega) (by omega) (by omega)) 24) (by simp)
    rw [k1, k2] at h
    refine h.mono fun e w' h => ?_
    obtain ⟨A', c', he, ho, hk⟩ := h.form
    simp only [hl, World.size_alloc] at he ho
    exact ⟨A', c', he, ho, (((Below.refl _ _).alloc (Nat.le_refl _) _)).trans (hk.mono (by simp))⟩

/-- What the law asks of one half: the calls of it, with short names. -/
theorem half2 (an dn : Nat) (A : Option Addr) (n cc K : Nat) (g : List UInt8) (hm : mayB an dn n = true) (hnc : n ≤ cc) (hl : g.length = n) (hK : 1 ≤ K) (hKa : K + 1 ≤ dn) : ∃ (g1 g2 : List UInt8) (m1 m2 : Nat),
    (∀ W, Row W A (bytesV g) → Calls Try.prog 33 #[.agg #[.int .i64 an, .int .i64 dn, .slice A n cc], .int .i64 0, .int .i64 0, .int .i64 an, .int .i64 K] W fun e w' => ∃ (A' : Option Addr) (c' : Nat), e = .returned (.tuple #[.agg #[.int .i64 an, .int .i64 K, .slice A' m1 c'], .int .i64 0]) ∧ Own w' W.heap.size 1 (.slice A' m1 c') m1 (bytesV g1) ∧ Kept W w') ∧
    (∀ W, Row W A (bytesV g) → Calls Try.prog 33 #[.agg #[.int .i64 an, .int .i64 dn, .slice A n cc], .int .i64 0, .int .i64 K, .int .i64 an, .int .i64 ((dn : Int) - K)] W fun e w' => ∃ (A' : Option Addr) (c' : Nat), e = .returned (.tuple #[.agg #[.int .i64 an, .int .i64 ((dn : Int) - K), .slice A' m2 c'], .int .i64 0]) ∧ Own w' W.heap.size 1 (.slice A' m2 c') m2 (bytesV g2) ∧ Kept W w') ∧
    (∀ W b A1 c1 A2 c2, b = W.heap.size → m1 ≤ c1 → m2 ≤ c2 → Row W A1 (bytesV g1) → Row W A2 (bytesV g2) → Calls Try.prog 31 #[.slice (some ⟨b, 0, none⟩) 2 2] (W.alloc (.cells #[.int .i64 an, .int .i64 K, .slice A1 m1 c1, .int .i64 an, .int .i64 ((dn : Int) - K), .slice A2 m2 c2] 24)) fun e w' => ∃ (A' : Option Addr) (c' : Nat), e = .returned (.tuple #[.agg #[.int .i64 an, .int .i64 dn, .slice A' n c'], .int .i64 0]) ∧ Own w' (b + 1) 1 (.slice A' n c') n (bytesV g) ∧ Kept W w') := by
  have hm' : mayB an dn g.length = true := by rw [hl]; exact hm
  obtain ⟨v1, v2, v3, v4, -, v6, v7⟩ := mayB_bounds hm
  obtain ⟨k1, k2, k3, k4⟩ := cut_above an dn K g hm' hK hKa
  refine ⟨(cropG an 0 an g 0 K), (cropG an 0 an g K (dn - K)), (cropG an 0 an g 0 K).length, (cropG an 0 an g K (dn - K)).length, fun W hW => ?_, fun W hW => ?_, fun W b A1 c1 A2 c2 hb h1 h2 hr1 hr2 => ?_⟩
  · exact (crop_ok an dn A n cc g 0 0 an K W hm hnc hl hW (by omega) (by omega) (by omega) (by omega)).mono fun _ _ h => h.form
  · have h := (crop_ok an dn A n cc g 0 K an (dn - K) W hm hnc hl hW (by omega) (by omega) (by omega) (by omega)).mono fun _ _ h => h.form
    rw [show ((dn - K : Nat) : Int) = (dn : Int) - K by omega] at h
    exact h
  · subst hb
    have h := below_any (some ⟨W.heap.size, 0, none⟩) 2 _ _ (pics_two (p := ⟨an, K, (cropG an 0 an g 0 K)⟩) (q := ⟨an, ((dn : Int) - K), (cropG an 0 an g K (dn - K))⟩) (A := A1) (c := c1) (B := A2) (k := c2) (W := W) (pic_at rfl h1 (by omega) hr1 (by omega) (by omega) (by omega) (by omega)) (pic_at rfl h2 (by omega) hr2 (by omega) (by omega) (by omega) (by omega)) 24) (by simp)
    rw [k1, k2] at h
    refine h.mono fun e w' h => ?_
    obtain ⟨A', c', he, ho, hk⟩ := h.form
    simp only [hl, World.size_alloc] at he ho
    exact ⟨A', c', he, ho, (((Below.refl _ _).alloc (Nat.le_refl _) _)).trans (hk.mono (by simp))⟩

set_option maxRecDepth 100000 in
set_option maxHeartbeats 3200000 in
theorem cuts_may (an dn : Nat) (A : Option Addr) (n cc : Nat) (g : List UInt8) (at_ : Int) (w : World) (hm : mayB an dn n = true) (hnc : n ≤ cc) (hl : g.length = n) (hr : Row w A (bytesV g)) (ha : -9223372036854775808 ≤ at_) (ha' : at_ ≤ 9223372036854775807) :
    Calls Try.prog 8 #[.agg #[.int .i64 an, .int .i64 dn, .slice A n cc], .int .i64 at_] w fun e w' => e = .returned (.bool true) ∧ Kept w w' := by
  have hck : checkI an dn n = 0 := by simp [checkI, hm]
  have HCK := hide hck
  have HM := hide hm
  have HL := hide hl
  have B0 := hide (Box.new w (.int .i64 an) (.int .i64 dn) (.slice A n cc) 24 _ rfl)
  have HR0 := hide (hr.alloc (.cells #[.int .i64 an, .int .i64 dn, .slice A n cc] 24))
  obtain ⟨v1, v2, v3, v4, -, v6, v7⟩ := mayB_bounds hm
  have CS : Hid (∀ W A' c', Row W A (bytesV g) → Row W A' (bytesV g) → Calls Try.prog 21 #[.agg #[.int .i64 an, .int .i64 dn, .slice A n cc], .agg #[.int .i64 an, .int .i64 dn, .slice A' n c']] W fun e w' => e = .returned (.bool true) ∧ Kept W w') := fun W A' c' h1 h2 => by
    have := same_any an dn an dn A A' n cc n c' g g W (by omega) hl hl h1 h2
    rwa [sameB_refl] at this
  clear hm hl hr hck
  go_enter Try.func8, Try.ntmps8
  go_upto_if 24 with (go_at_call 20; refine (check_any an dn A n cc _ (by omega) (by omega) (by omega) (by omega) (by omega)).mono ?_; rintro e w1 ⟨rfl, hk1⟩; rw [HCK.out]; have B1 := hide (B0.out.kept hk1); have HR := hide (HR0.out.kept hk1); have K1 := hide (((Below.refl _ w).alloc (Nat.le_refl _) (.cells #[.int .i64 an, .int .i64 dn, .slice A n cc] 24)).trans (hk1.mono (by simp))); clear hk1)
  go_cut [1] (fun v wx => ∃ k : Nat, (k : Int) ≤ 9223372036854775807 ∧ v = .int .i64 k ∧ w1 = wx)
  case first =>
    by_cases hneg : at_ < 0
    · go_wp2_with fail
      go_meet
      exact ⟨(-(at_ + 1)).toNat, by omega, by rw [Int.toNat_of_nonneg (by omega)], rfl⟩
    · go_wp2_with fail
      go_meet
      exact ⟨at_.toNat, by omega, by rw [Int.toNat_of_nonneg (by omega)], rfl⟩
  case rest =>
  obtain ⟨k, hk, rfl, rfl⟩ := hcut
  obtain ⟨p0, p1, p2⟩ := B1.out
  have hz1 := lt_of_cell p0
  clear HR0 B0 ha ha'
  go_upto_if 30 with fail
  go_cut [] (fun wx => Kept w1 wx)
  case first =>
    by_cases h1 : 1 < an
    · obtain ⟨K, hK⟩ : ∃ K, K = 1 + k % (an - 1) := ⟨_, rfl⟩
      have hmod : k % (an - 1) < an - 1 := Nat.mod_lt _ (by omega)
      obtain ⟨g1, g2, m1, m2, cc1, cc2, cb⟩ := half1 an dn A n cc K g HM.out hnc HL.out (by omega) (by omega)
      have CC1 := hide cc1
      have CC2 := hide cc2
      have CB := hide cb
      have hsl : (1 : Int) < an := by omega
      have hKI : (1 : Int) + (k : Int) % ((an : Int) - 1) = (K : Int) := by
        rw [hK, Int.natCast_add, Int.natCast_emod, Int.natCast_sub (by omega)]; rfl
      have hK1 : 1 ≤ K := by omega
      have hK2 : K + 1 ≤ an := by omega
      clear hK hmod cc1 cc2 cb
      go_wp2_with fail
      refine (CC1.out _ HR.out).mono ?_
      rintro e w2 ⟨A1, c1, rfl, ho1, hk1⟩
      have HK1 := hide hk1
      have BP2 := hide (B1.out.kept hk1)
      have HO1 := hide ho1
      obtain ⟨q0, q1, q2⟩ := BP2.out
      have z2 : w.heap.size < w2.heap.size := lt_of_cell q0
      have hc1 : m1 ≤ c1 := by obtain ⟨A', c', hv, h1, -, -, -, -⟩ := ho1.form; injection hv with _ _ h3; omega
      clear hk1 ho1 p0 p1 p2
      go_wp2_with fail
      refine (CC2.out _ ((HR.out.kept HK1.out).alloc _)).mono ?_
      rintro e w3 ⟨A2, c2, rfl, ho2, hk2⟩
      have HK2 := hide ((HK1.out.alloc HK1.out.size (.cells #[.int .i64 K, .int .i64 dn, .slice A1 m1 c1] 24)).trans (hk2.mono (by have := HK1.out.size; simp; omega)))
      have BP3 := hide ((BP2.out.alloc (.cells #[.int .i64 K, .int .i64 dn, .slice A1 m1 c1] 24)).kept hk2)
      have BA3 := hide ((Box.new w2 (.int .i64 K) (.int .i64 dn) (.slice A1 m1 c1) 24 _ rfl).kept hk2)
      have RA := hide (((HO1.out.row).alloc (.cells #[.int .i64 K, .int .i64 dn, .slice A1 m1 c1] 24)).kept hk2)
      have RB := hide ho2.row
      have hc2 : m2 ≤ c2 := by obtain ⟨A', c', hv, h1, -, -, -, -⟩ := ho2.form; injection hv with _ _ h3; omega
      obtain ⟨r0, r1, r2⟩ := BP3.out
      obtain ⟨s0, s1, s2⟩ := BA3.out
      have z3 : w.heap.size < w3.heap.size := lt_of_cell r0
      have z4 : w2.heap.size < w3.heap.size := lt_of_cell s0
      clear hk2 ho2 q0 q1 q2
      go_wp2_with fail
      refine (CB.out _ _ A1 c1 A2 c2 (by simp) hc1 hc2 (RA.out.alloc _) (RB.out.alloc _)).mono ?_
      rintro e w4 ⟨A4, c4, rfl, ho4, hk4⟩
      have BP4 := hide ((BP3.out.alloc (.cells #[.int .i64 ((an : Int) - K), .int .i64 dn, .slice A2 m2 c2] 24)).kept hk4)
      have HK4 := hide ((HK2.out.alloc HK2.out.size (.cells #[.int .i64 ((an : Int) - K), .int .i64 dn, .slice A2 m2 c2] 24)).trans (hk4.mono (by have := HK2.out.size; simp; omega)))
      have RP4 := hide (HR.out.kept HK4.out)
      have RQ4 := hide ho4.row
      obtain ⟨t0, t1, t2⟩ := BP4.out
      have z5 : w.heap.size < w4.heap.size := lt_of_cell t0
      clear hk4 ho4 r0 r1 r2 s0 s1 s2
      go_wp2_with (go_at_call 21; refine (CS.out _ A4 c4 (RP4.out.alloc _) (RQ4.out.alloc _)).mono ?_; rintro e w5 ⟨rfl, hk5⟩; have HK5 := hide ((HK4.out.alloc HK4.out.size (.cells #[.int .i64 an, .int .i64 dn, .slice A4 n c4] 24)).trans (hk5.mono (by have := HK4.out.size; simp; omega))); clear hk5)
      go_meet
      exact HK5.out
    · have hsl : ¬ (1 : Int) < an := by omega
      go_wp2_with fail
      go_meet
      exact Below.refl _ _
  case rest =>
  have BX := hide (B1.out.kept hcut)
  have HRX := hide (HR.out.kept hcut)
  have KX := hide (K1.out.trans (hcut.mono K1.out.size))
  rename World => wx
  clear hcut p0 p1 p2 hz1
  obtain ⟨p0, p1, p2⟩ := BX.out
  have hz1 := lt_of_cell p0
  go_upto_if 82 with fail
  go_cut [] (fun wy => Kept wx wy)
  case first =>
    by_cases h2 : 1 < dn
    · obtain ⟨K, hK⟩ : ∃ K, K = 1 + k % (dn - 1) := ⟨_, rfl⟩
      have hmod : k % (dn - 1) < dn - 1 := Nat.mod_lt _ (by omega)
      obtain ⟨g1, g2, m1, m2, cc1, cc2, cb⟩ := half2 an dn A n cc K g HM.out hnc HL.out (by omega) (by omega)
      have CC1 := hide cc1
      have CC2 := hide cc2
      have CB := hide cb
      have hsl : (1 : Int) < dn := by omega
      have hKI : (1 : Int) + (k : Int) % ((dn : Int) - 1) = (K : Int) := by
        rw [hK, Int.natCast_add, Int.natCast_emod, Int.natCast_sub (by omega)]; rfl
      have hK1 : 1 ≤ K := by omega
      have hK2 : K + 1 ≤ dn := by omega
      clear hK hmod cc1 cc2 cb
      go_wp2_with fail
      refine (CC1.out _ HRX.out).mono ?_
      rintro e w2 ⟨A1, c1, rfl, ho1, hk1⟩
      have HK1 := hide hk1
      have BP2 := hide (BX.out.kept hk1)
      have HO1 := hide ho1
      obtain ⟨q0, q1, q2⟩ := BP2.out
      have z2 : w.heap.size < w2.heap.size := lt_of_cell q0
      have hc1 : m1 ≤ c1 := by obtain ⟨A', c', hv, h1, -, -, -, -⟩ := ho1.form; injection hv with _ _ h3; omega
      clear hk1 ho1 p0 p1 p2
      go_wp2_with fail
      refine (CC2.out _ ((HRX.out.kept HK1.out).alloc _)).mono ?_
      rintro e w3 ⟨A2, c2, rfl, ho2, hk2⟩
      have HK2 := hide ((HK1.out.alloc HK1.out.size (.cells #[.int .i64 an, .int .i64 K, .slice A1 m1 c1] 24)).trans (hk2.mono (by have := HK1.out.size; simp; omega)))
      have BP3 := hide ((BP2.out.alloc (.cells #[.int .i64 an, .int .i64 K, .slice A1 m1 c1] 24)).kept hk2)
      have BA3 := hide ((Box.new w2 (.int .i64 an) (.int .i64 K) (.slice A1 m1 c1) 24 _ rfl).kept hk2)
      have RA := hide (((HO1.out.row).alloc (.cells #[.int .i64 an, .int .i64 K, .slice A1 m1 c1] 24)).kept hk2)
      have RB := hide ho2.row
      have hc2 : m2 ≤ c2 := by obtain ⟨A', c', hv, h1, -, -, -, -⟩ := ho2.form; injection hv with _ _ h3; omega
      obtain ⟨r0, r1, r2⟩ := BP3.out
      obtain ⟨s0, s1, s2⟩ := BA3.out
      have z3 : w.heap.size < w3.heap.size := lt_of_cell r0
      have z4 : w2.heap.size < w3.heap.size := lt_of_cell s0
      clear hk2 ho2 q0 q1 q2
      go_wp2_with fail
      refine (CB.out _ _ A1 c1 A2 c2 (by simp) hc1 hc2 (RA.out.alloc _) (RB.out.alloc _)).mono ?_
      rintro e w4 ⟨A4, c4, rfl, ho4, hk4⟩
      have BP4 := hide ((BP3.out.alloc (.cells #[.int .i64 an, .int .i64 ((dn : Int) - K), .slice A2 m2 c2] 24)).kept hk4)
      have HK4 := hide ((HK2.out.alloc HK2.out.size (.cells #[.int .i64 an, .int .i64 ((dn : Int) - K), .slice A2 m2 c2] 24)).trans (hk4.mono (by have := HK2.out.size; simp; omega)))
      have RP4 := hide (HRX.out.kept HK4.out)
      have RQ4 := hide ho4.row
      obtain ⟨t0, t1, t2⟩ := BP4.out
      have z5 : w.heap.size < w4.heap.size := lt_of_cell t0
      clear hk4 ho4 r0 r1 r2 s0 s1 s2
      go_wp2_with (go_at_call 21; refine (CS.out _ A4 c4 (RP4.out.alloc _) (RQ4.out.alloc _)).mono ?_; rintro e w5 ⟨rfl, hk5⟩; have HK5 := hide ((HK4.out.alloc HK4.out.size (.cells #[.int .i64 an, .int .i64 dn, .slice A4 n c4] 24)).trans (hk5.mono (by have := HK4.out.size; simp; omega))); clear hk5)
      go_meet
      exact HK5.out
    · have hsl : ¬ (1 : Int) < dn := by omega
      go_wp2_with fail
      go_meet
      exact Below.refl _ _
  case rest =>
  have KY := hide (KX.out.trans (hcut.mono KX.out.size))
  clear hcut p0 p1 p2
  go_wp2_with (go_at_call 19; refine (awake_any _).mono ?_; rintro e w9 ⟨rfl, hk9⟩)
  go_ret
  exact ⟨rfl, KY.out.trans (hk9.mono KY.out.size)⟩

set_option maxRecDepth 100000 in
set_option maxHeartbeats 400000 in
theorem cuts_bad (a d : Int) (A : Option Addr) (n cc : Nat) (at_ : Int) (w : World) (ha : -9223372036854775808 ≤ a) (ha' : a ≤ 9223372036854775807) (hd : -9223372036854775808 ≤ d) (hd' : d ≤ 9223372036854775807) (hn : n ≤ 9223372036854775807) (hm : mayB a d n = false) :
    Calls Try.prog 8 #[.agg #[.int .i64 a, .int .i64 d, .slice A n cc], .int .i64 at_] w fun e w' => e = .returned (.bool true) ∧ Kept w w' := by
  have hck : checkI a d n = 290 := by simp [checkI, hm]
  have HCK := hide hck
  clear hm hck
  go_enter Try.func8, Try.ntmps8
  go_wp2_with (first
    | (go_at_call 20; refine (check_any a d A n cc _ ha ha' hd hd' hn).mono ?_; rintro e w1 ⟨rfl, hk1⟩; rw [HCK.out]; have K1 := hide (((Below.refl _ w).alloc (Nat.le_refl _) (.cells #[.int .i64 a, .int .i64 d, .slice A n cc] 24)).trans (hk1.mono (by simp))); clear hk1)
    | (go_at_call 19; refine (awake_any _).mono ?_; rintro e w9 ⟨rfl, hk9⟩))
  go_ret
  exact ⟨rfl, K1.out.trans (hk9.mono K1.out.size)⟩
theorem cuts_any (p : PicD) (A : Option Addr) (n cc : Nat) (at_ : Int) (w : World) (hp : PicAt w p A n cc) (ha : -9223372036854775808 ≤ at_) (ha' : at_ ≤ 9223372036854775807) :
    Calls Try.prog 8 #[.agg #[.int .i64 p.a, .int .i64 p.d, .slice A n cc], .int .i64 at_] w fun e w' => e = .returned (.bool true) ∧ Kept w w' := by
  cases hm : mayB p.a p.d n with
  | false => exact cuts_bad _ _ A n cc at_ w hp.a0 hp.a1 hp.d0 hp.d1 hp.max hm
  | true =>
    obtain ⟨a, d, g⟩ := p
    have hb := mayB_bounds hm
    obtain ⟨an, rfl⟩ := Int.eq_ofNat_of_zero_le (show 0 ≤ a by have := hb.1; simp only at this; omega)
    obtain ⟨dn, rfl⟩ := Int.eq_ofNat_of_zero_le (show 0 ≤ d by have := hb.2.2.1; simp only at this; omega)
    exact cuts_may an dn A n cc g at_ w hm hp.cap hp.len hp.row ha ha'
end Go.Proofs.Ytbhgcbgaadnfpaa
