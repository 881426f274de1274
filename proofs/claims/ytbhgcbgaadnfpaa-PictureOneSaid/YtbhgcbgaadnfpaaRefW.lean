/- The reference's Write, walked. -/
import Derived.Test.YtbhgcbgaadnfpaaRefA
import Derived.Test.YtbhgcbgaadnfpaaHeld
import Derived.Deep.DeepCutAuto
namespace Go.Proofs.Ytbhgcbgaadnfpaa
open Go.RowKit

set_option maxRecDepth 100000 in
set_option maxHeartbeats 400000 in
theorem rwrite_bad (a d : Int) (A : Option Addr) (n c : Nat) (w : World) (ha : -9223372036854775808 ≤ a) (ha' : a ≤ 9223372036854775807) (hd : -9223372036854775808 ≤ d) (hd' : d ≤ 9223372036854775807) (hn : n ≤ 9223372036854775807) (hm : mayB a d n = false) :
    Calls Try.prog 14 #[.agg #[.int .i64 a, .int .i64 d, .slice A n c]] w fun e w' => e = .returned (.tuple #[.string ⟨#[]⟩, .int .i64 290]) ∧ Kept w w' := by
  go_enter Try.func14, Try.ntmps14
  go_wp2_with (go_at_call 24; refine (may_any _ _ _ _ _ _ (by omega) (by omega) (by omega) (by omega) (by omega)).mono ?_; rw [hm]; rintro e w1 ⟨rfl, hk1⟩)
  go_ret2
  exact ⟨rfl, (((Below.refl _ _).alloc (Nat.le_refl _) _).trans (hk1.mono (by simp)))⟩

theorem head_bytes (a d : Nat) : ((⟨#[70, 76, 80, 1]⟩ : ByteArray) ++ ⟨(be4 a).toArray⟩ ++ ⟨(be4 d).toArray⟩) = ⟨(headB a d).toArray⟩ := by
  apply ByteArray.ext
  simp [headB]

set_option maxRecDepth 100000 in
set_option maxHeartbeats 1600000 in
theorem rwrite_good (a d : Int) (A : Option Addr) (n c : Nat) (g : List UInt8) (w : World) (hm : mayB a d n = true) (hnc : n ≤ c) (hl : g.length = n) (hr : Row w A (bytesV g)) :
    Calls Try.prog 14 #[.agg #[.int .i64 a, .int .i64 d, .slice A n c]] w fun e w' => e = .returned (.tuple #[.string ⟨(writeL a.toNat d.toNat g).toArray⟩, .int .i64 0]) ∧ Kept w w' := by
  obtain ⟨i0, hi, hz0, hz1, hz2⟩ := info_parts info_u8
  obtain ⟨h1, h2, h3, h4, h5, h6, h7⟩ := mayB_bounds hm
  have HM := hide hm
  have HL := hide hl
  have H5 := hide h5
  clear hm hl h5
  go_enter Try.func14, Try.ntmps14
  go_upto_region 3 with (go_at_call 24; refine (may_any _ _ _ _ _ _ (by omega) (by omega) (by omega) (by omega) (by omega)).mono ?_; rw [HM.out]; rintro e w1 ⟨rfl, hk1⟩; have hc1 := hk1.cells; have hz := hk1.size; simp at hz)
  have ca : w1.cell? ⟨w.heap.size, 0, none⟩ = some (.int .i64 a) := by rw [hk1.cells _ _ (by simp)]; simp
  have cd : w1.cell? ⟨w.heap.size, 1, none⟩ = some (.int .i64 d) := by rw [hk1.cells _ _ (by simp)]; simp
  have hz' : w.heap.size < w1.heap.size := hz
  go_cut [4] (fun s4 wx => Own wx w1.heap.size 1 s4 12 (bytesV (headB a.toNat d.toNat)) ∧ Below w1.heap.size w1 wx)
  case first =>
    clear hc1
    obtain ⟨fa, hfa⟩ : ∃ x : ByteArray, x = ⟨(be4 a.toNat).toArray⟩ := ⟨_, rfl⟩
    obtain ⟨fd, hfd⟩ : ∃ x : ByteArray, x = ⟨(be4 d.toNat).toArray⟩ := ⟨_, rfl⟩
    have sfa : fa.size = 4 := by rw [hfa]; rfl
    have sfd : fd.size = 4 := by rw [hfd]; rfl
    have hS : Hid ((⟨#[70, 76, 80, 1]⟩ : ByteArray) ++ fa ++ fd = ⟨(headB a.toNat d.toNat).toArray⟩) := by rw [hfa, hfd]; exact head_bytes _ _
    have hS12 : Hid (((⟨#[70, 76, 80, 1]⟩ : ByteArray) ++ fa ++ fd).size = 12) := by rw [hS.out]; rfl
    have hSZ : Hid (((⟨#[70, 76, 80, 1]⟩ : ByteArray) ++ fa ++ fd).size ≤ maxLen) := by rw [hS.out]; show 12 ≤ maxLen; simp [maxLen]
    have CA : Hid (∀ W, Calls Try.prog 47 #[.int .i64 a] W fun e w' => e = .returned (.string fa) ∧ Kept W w') := fun W => by rw [hfa]; exact rfour_any a W (by omega) (by omega)
    have CD : Hid (∀ W, Calls Try.prog 47 #[.int .i64 d] W fun e w' => e = .returned (.string fd) ∧ Kept W w') := fun W => by rw [hfd]; exact rfour_any d W (by omega) (by omega)
    have fin : ∀ (W W' : World) (v : Value), Kept w1 W → Own W' W.heap.size 1 v 12 (((⟨#[70, 76, 80, 1]⟩ : ByteArray) ++ fa ++ fd).data.toList.map fun b => .int .u8 (b.toNat : Int)) → Kept W W' →
        Own W' w1.heap.size 1 v 12 (bytesV (headB a.toNat d.toNat)) ∧ Below w1.heap.size w1 W' := fun W W' v h1 h2 h3 => by
      rw [hS.out] at h2
      exact ⟨h2.less h1.size, h1.trans (h3.mono h1.size)⟩
    have FIN := hide fin
    clear hfa hfd fin
    refine wp_region_L (fun w' => w'.cell? ⟨w.heap.size, 0, none⟩ = some (.int .i64 a) ∧ w'.cell? ⟨w.heap.size, 1, none⟩ = some (.int .i64 d)) 999 (by kernel_rfl) ?_ (fun hHeld => ?_)
    · go_keep
    refine wpAnyL_take (i := 0) (v := ?_) (some 12) rfl rfl (by kernel_rfl) (by kernel_rfl) (by kernel_rfl) (by kernel_rfl) (fun _ _ _ h => h) (Or.inl ⟨by rfl, ?_⟩) (by assumption) ?_
    rotate_left
    · intro w hSw; (try dsimp only at hSw); go_simp; (try with_reducible rfl)
    try simp only [Act.put, List.setIfInBounds_toArray, List.set_cons_zero, List.set_cons_succ]
    refine wpAnyL_take (i := 1) (v := ?_) (some 13) rfl rfl (by kernel_rfl) (by kernel_rfl) (by kernel_rfl) (by kernel_rfl) (fun _ _ _ h => h) (Or.inl ⟨by rfl, ?_⟩) (by assumption) ?_
    rotate_left
    · intro w hSw; (try dsimp only at hSw); go_simp; (try with_reducible rfl)
    try simp only [Act.put, List.setIfInBounds_toArray, List.set_cons_zero, List.set_cons_succ]
    refine wpAnyL_take (i := 4) (v := ?_) (some 16) rfl rfl (by kernel_rfl) (by kernel_rfl) (by kernel_rfl) (by kernel_rfl) (fun _ _ _ h => h) (Or.inl ⟨by rfl, ?_⟩) (by assumption) ?_
    rotate_left
    · intro w hSw; (try dsimp only at hSw); go_simp; (try with_reducible rfl)
    try simp only [Act.put, List.setIfInBounds_toArray, List.set_cons_zero, List.set_cons_succ]
    refine wpAnyL_take (i := 5) (v := ?_) (some 17) rfl rfl (by kernel_rfl) (by kernel_rfl) (by kernel_rfl) (by kernel_rfl) (fun _ _ _ h => h) (Or.inl ⟨by rfl, ?_⟩) (by assumption) ?_
    rotate_left
    · intro w hSw; (try dsimp only at hSw); go_simp; (try with_reducible rfl)
    try simp only [Act.put, List.setIfInBounds_toArray, List.set_cons_zero, List.set_cons_succ]
    refine wpAnyL_one (i := 2) (by kernel_rfl) rfl (fun K hK => ?_)
    go_simp
    (refine (CA.out _).mono ?_; rintro e w2 ⟨rfl, hk2⟩; have hz2 : w1.heap.size ≤ w2.heap.size := hk2.size; have cd2 := (hk2.cells w.heap.size 1 hz').trans cd; have ca2 := (hk2.cells w.heap.size 0 hz').trans ca)
    refine hK.out _ _ ?_ (fun hHeld => ?_)
    · go_keep
    clear hK K
    try simp only [Act.put, List.setIfInBounds_toArray, List.set_cons_zero, List.set_cons_succ]
    refine wpAnyL_take (i := 3) (v := ?_) (some 15) rfl rfl (by kernel_rfl) (by kernel_rfl) (by kernel_rfl) (by kernel_rfl) (fun _ _ _ h => h) (Or.inl ⟨by rfl, ?_⟩) (by assumption) ?_
    rotate_left
    · intro w hSw; (try dsimp only at hSw); go_simp; (try with_reducible rfl)
    try simp only [Act.put, List.setIfInBounds_toArray, List.set_cons_zero, List.set_cons_succ]
    refine wpAnyL_one (i := 6) (by kernel_rfl) rfl (fun K hK => ?_)
    go_simp
    (refine (CD.out _).mono ?_; rintro e w3 ⟨rfl, hk3⟩; have hz3 := hk3.size; have cd3 := (hk3.cells w.heap.size 1 (by omega)).trans cd2; have ca3 := (hk3.cells w.heap.size 0 (by omega)).trans ca2)
    refine hK.out _ _ ?_ (fun hHeld => ?_)
    · go_keep
    clear hK K
    try simp only [Act.put, List.setIfInBounds_toArray, List.set_cons_zero, List.set_cons_succ]
    refine wpAnyL_take (i := 7) (v := ?_) (some 19) rfl rfl (by kernel_rfl) (by kernel_rfl) (by kernel_rfl) (by kernel_rfl) (fun _ _ _ h => h) (Or.inl ⟨by rfl, ?_⟩) (by assumption) ?_
    rotate_left
    · intro w hSw; (try dsimp only at hSw); go_simp; (try with_reducible rfl)
    try simp only [Act.put, List.setIfInBounds_toArray, List.set_cons_zero, List.set_cons_succ]
    refine wpAnyL_one (i := 8) (by kernel_rfl) rfl (fun K hK => ?_)
    (refine step_conv_bytes _ rfl 9 22 5 _ rfl Try.underlying9 Try.underlying22 Try.underlying5 (⟨#[70, 76, 80, 1]⟩ ++ fa ++ fd) rfl hSZ.out (fun A5 c5 w5 hown5 hk5 => ?_); have cd5 := (hk5.cells w.heap.size 1 (by omega)).trans cd3; have ca5 := (hk5.cells w.heap.size 0 (by omega)).trans ca3)
    refine hK.out _ _ ?_ (fun hHeld => ?_)
    · go_keep
    clear hK K
    try simp only [Act.put, List.setIfInBounds_toArray]
    refine wpAnyL_one (i := 9) (by kernel_rfl) rfl (fun K hK => ?_)
    go_simp
    refine hK.out _ _ ?_ (fun hHeld => ?_)
    · go_keep
    clear hK K
    try simp only [Act.put, List.setIfInBounds_toArray, List.set_cons_zero, List.set_cons_succ]
    refine wpAnyL_done (by kernel_rfl) ?_ _
    go_wp2_with fail
    go_meet
    rw [hS12.out] at hown5
    exact FIN.out w3 _ _ ((drewN_below (Below.refl _ w1) 1).trans (hk2.trans' hk3)) hown5 hk5
  case rest =>
    obtain ⟨hown, hbw⟩ := hcut
    have box : ∀ W, Below w1.heap.size w1 W → (W.cell? ⟨w.heap.size, 0, none⟩ = some (.int .i64 a) ∧ W.cell? ⟨w.heap.size, 1, none⟩ = some (.int .i64 d) ∧ W.cell? ⟨w.heap.size, 2, none⟩ = some (.slice A n c)) ∧ Row W A (bytesV g) := fun W hW => by
      have e : ∀ o, W.cell? ⟨w.heap.size, o, none⟩ = (w.alloc (.cells #[.int .i64 a, .int .i64 d, .slice A n c] 24)).cell? ⟨w.heap.size, o, none⟩ := fun o => (hW.cell (p := ⟨w.heap.size, o, none⟩) hz').trans (hk1.cells _ _ (by simp))
      exact ⟨⟨by rw [e]; simp, by rw [e]; simp, by rw [e]; simp⟩, ((hr.alloc _).kept hk1).kept hW⟩
    have BOX := hide box
    have HK1 := hide hk1
    clear box hc1 hz hk1 ca cd hr
    obtain ⟨⟨c0, c1, c2⟩, -⟩ := BOX.out wc hbw
    go_wp2
    go_loopg [4, 5] d.toNat (fun gh v ix wr => ∃ k m : Nat, k + gh = d.toNat ∧ ix = .int .i64 k ∧ Own wr w1.heap.size 1 v m (bytesV (headB a.toNat d.toNat ++ runsTo a.toNat g k)) ∧ Below w1.heap.size w1 wr)
    case atStart => exact ⟨0, 12, by omega, rfl, by simpa [runsTo] using hown, hbw⟩
    case round =>
      obtain ⟨k, m, hkg, rfl, hown, hbr⟩ := hrel
      clear c0 c1 c2
      obtain ⟨⟨c0, c1, c2⟩, hrr⟩ := BOX.out wr hbr
      cases gk with
      | zero =>
        have hk : (k : Int) = d := by omega
        have hge : ¬ (k : Int) < d := by omega
        obtain ⟨A5, c5, rfl, hmc, hcm, hr5, -, -⟩ := hown.form
        have hlen5 := hown.1
        rw [bytesV_length, Nat.mul_one] at hlen5
        have kv : (convert 22 9 (.slice A5 m c5)).run Try.prog wr = .ok (.string ⟨(writeL a.toNat d.toNat g).toArray⟩) wr := by
          have h := conv_row (P := Try.prog) Try.underlying22 Try.underlying5 Try.underlying9 (c := c5) hlen5 hr5
          have hkd : k = d.toNat := by omega
          rw [hkd] at h
          exact h
        clear hlen5 hk hown hr5 hrr hmc hcm
        go_wp2
        go_ret2
        exact ⟨rfl, ((Below.refl _ _).alloc (Nat.le_refl _) _).trans ((HK1.out.mono (by simp)).trans (hbr.mono (by omega)))⟩
      | succ gh =>
        have hlt : (k : Int) < d := by omega
        have p1 : 0 ≤ (k : Int) * a := Int.mul_nonneg (by omega) (by omega)
        have p2 : ((k : Int) + 1) * a ≤ n := by rw [H5.out, Int.mul_comm a d]; exact Int.mul_le_mul_of_nonneg_right (by omega) (by omega)
        have p3 : (k : Int) * a + a = ((k : Int) + 1) * a := by rw [Int.add_mul]; omega
        have p4 : (k : Int) * a ≤ ((k : Int) + 1) * a := by omega
        have p5 : ¬ c = ((k : Int) * a).toNat := by omega
        have q1 : (((k : Int) + 1) * a).toNat - ((k : Int) * a).toNat = a.toNat := by omega
        have q2 : ((k : Int) * a).toNat = k * a.toNat := by rw [Int.toNat_mul (by omega) (by omega)]; simp
        have q3 : a.toNat ≤ c - ((k : Int) * a).toNat := by omega
        have Q1 := hide q1
        have Q2 := hide q2
        have Q3 := hide q3
        have hown' := hide hown
        clear p3 q1 q2 q3 hown hrr
        go_upto_region 7 with fail
        go_cut [6] (fun s6 wx => ∃ (A2 : Option Addr) (L c2 : Nat), s6 = .slice A2 L c2 ∧ L = a.toNat ∧ L ≤ c2 ∧ (∀ W, Row W A (bytesV g) → Row W A2 (bytesV (rowOf a.toNat g k))) ∧ wx = wr)
        case first =>
          go_wp2_with fail
          go_meet
          refine ⟨_, _, _, rfl, Q1.out, ?_, ?_, rfl⟩
          · rw [Q1.out]; exact Q3.out
          · rw [Q2.out]
            intro W hW
            have := (hW.drop (k * a.toNat)).take a.toNat
            rw [bytesV_drop, bytesV_take] at this
            exact this
        case rest =>
          obtain ⟨A2, L, c3, rfl, hLa, hLc, hA2, rfl⟩ := hcut
          have hRL : (rowOf a.toNat g k).length = L := by
            have h7 : (k + 1) * a.toNat ≤ d.toNat * a.toNat := Nat.mul_le_mul_right _ (by omega)
            have h8 : ((d.toNat * a.toNat : Nat) : Int) = d * a := by rw [Int.natCast_mul, Int.toNat_of_nonneg (by omega), Int.toNat_of_nonneg (by omega)]
            have h9 := H5.out
            have h10 := HL.out
            rw [Int.mul_comm] at h9
            rw [Nat.add_mul] at h7
            simp [rowOf]
            omega
          have hacc : ∀ acc : List UInt8, acc.length ≤ (headB a.toNat d.toNat ++ runsTo a.toNat g (k + 1)).length → acc.length ≤ 12 + 2 * 4194304 := fun acc h9 => by
            have h10 := runsTo_le a.toNat d.toNat n g (k + 1) (by
              have h11 := H5.out
              have h12 : ((a.toNat * d.toNat : Nat) : Int) = a * d := by rw [Int.natCast_mul, Int.toNat_of_nonneg (by omega), Int.toNat_of_nonneg (by omega)]
              omega) (by omega)
            simp only [List.length_append, headB_length] at h9
            omega
          have HACC := hide hacc
          have HT0 : Hid ((headB a.toNat d.toNat ++ runsTo a.toNat g k) ++ runs ((rowOf a.toNat g k).drop 0) = headB a.toNat d.toNat ++ runsTo a.toNat g (k + 1)) := by
            show _ = _
            rw [List.drop_zero, List.append_assoc]; rfl
          have ROW : Hid (∀ W, Below w1.heap.size w1 W → Row W A2 (bytesV (rowOf a.toNat g k))) := fun W hW => hA2 W (BOX.out W hW).2
          have hLb : L ≤ 4194304 := by omega
          clear hLa
          have HOWN := hown'
          clear hA2 hacc hown' c0 c1 c2 p1 p2 p4 p5 Q1 Q2 Q3
          generalize hR : rowOf a.toNat g k = R at *
          generalize hA0 : headB a.toNat d.toNat ++ runsTo a.toNat g k = acc0 at *
          generalize hTO : headB a.toNat d.toNat ++ runsTo a.toNat g (k + 1) = tot at *
          have HTO := hide hTO
          have HRL := hide hRL
          clear hR hA0 hTO hRL
          have hown2 := HOWN.out
          clear HOWN
          go_wp2
          go_loopg [4, 7] L (fun g2 v ix wx => ∃ (acc : List UInt8) (i m2 : Nat), i ≤ L ∧ L - i ≤ g2 ∧ ix = .int .i64 i ∧ Own wx w1.heap.size 1 v m2 (bytesV acc) ∧ Hid (acc ++ runs (R.drop i) = tot) ∧ Below w1.heap.size w1 wx)
          case atStart => exact ⟨acc0, 0, m, by omega, by omega, rfl, hown2, HT0, hbr⟩
          case round =>
            clear hown2 hbr HT0
            obtain ⟨acc, i, m2, hiL, hig, rfl, hoo, HTT, hbb⟩ := hrel
            by_cases hie : i = L
            · have hge : ¬ (i : Int) < (L : Int) := by omega
              have HN : Hid (R.drop i = []) := List.drop_of_length_le (by rw [HRL.out]; omega)
              clear hie
              go_wp2
              go_roundg gh
              case measure => omega
              case rel => exact ⟨k + 1, m2, by omega, by go_num, by rw [HTO.out, ← HTT.out, HN.out, runs_nil, List.append_nil]; exact hoo, hbb⟩
            · have hlti : (i : Int) < (L : Int) := by omega
              obtain ⟨x, r, hxr⟩ : ∃ x r, R.drop i = x :: r := by
                have h : i < R.length := by rw [HRL.out]; omega
                exact ⟨_, _, List.drop_eq_getElem_cons h⟩
              have hxl : (x :: r).length = L - i := by rw [← hxr, List.length_drop, HRL.out]
              have cells : ∃ bb oo, A2 = some ⟨bb, oo, none⟩ ∧ Hid (∀ W, Below w1.heap.size w1 W → ∀ (j : Nat) (y : UInt8), (x :: r)[j]? = some y → W.cell? ⟨bb, oo + (i + j), none⟩ = some (.int .u8 (y.toNat : Int))) := by
                rcases ROW.out _ (Below.refl _ w1) with h | ⟨bb, oo, hA, -⟩
                · exfalso
                  have h2 : R = [] := by simpa [bytesV] using h
                  rw [h2] at hxr; simp at hxr
                · refine ⟨bb, oo, hA, fun W hW j y hy => ?_⟩
                  rcases ROW.out W hW with h | ⟨bb', oo', hA', hc⟩
                  · exfalso
                    have h2 : R = [] := by simpa [bytesV] using h
                    rw [h2] at hxr; simp at hxr
                  · rw [hA] at hA'
                    injection hA' with hA'; injection hA' with e1 e2
                    subst e1; subst e2
                    refine hc (i + j) _ ?_
                    rw [← hxr, List.getElem?_drop] at hy
                    simp [bytesV, hy]
              obtain ⟨bb, oo, rfl, CELLS⟩ := cells
              have HXR := hide hxr
              have HXL := hide hxl
              have hxb := x.toNat_lt
              clear hie hxr hxl
              go_wp2
              go_loopg [8] 254 (fun g3 s8 wy => ∃ q : Nat, q + g3 = 255 ∧ 1 ≤ q ∧ i + q ≤ L ∧ s8 = .int .i64 q ∧ Hid (∀ j, j < q → (x :: r)[j]? = some x) ∧ Own wy w1.heap.size 1 u4 m2 (bytesV acc) ∧ Below w1.heap.size w1 wy)
              case atStart => exact ⟨1, by omega, by omega, by omega, rfl, fun j hj => by (have : j = 0 := by omega); subst this; rfl, hoo, hbb⟩
              case round =>
                clear hoo hbb
                obtain ⟨q, hqg, hq1, hqL, rfl, HX, hoo, hbb⟩ := hrel
                have cx : wr.cell? ⟨bb, oo + i, none⟩ = some (.int .u8 (x.toNat : Int)) := CELLS.out wr hbb 0 x rfl
                have cq : i + q < L → ∃ y, (x :: r)[q]? = some y ∧ wr.cell? ⟨bb, oo + (i + q), none⟩ = some (.int .u8 (y.toNat : Int)) := fun hq => by
                  have hq2 : q < (x :: r).length := by rw [HXL.out]; omega
                  exact ⟨(x :: r)[q], List.getElem?_eq_getElem hq2, CELLS.out wr hbb q _ (List.getElem?_eq_getElem hq2)⟩
                go_upto_region 11 with fail
                go_cut [65] (fun s65 wx => ∃ nq : Nat, s65 = .bool (!stopB q (x :: r)) ∧ wr.drewN nq = wx)
                case first =>
                  by_cases t2 : q = 255
                  · have hs : stopB q (x :: r) = true := by simp [stopB, t2]
                    have b2 : ¬ ((q : Int) < 255) := by omega
                    have HS := hide hs
                    clear hs t2 cq cx
                    go_quiet (fail)
                    go_wp2_with fail
                    go_meet
                    exact ⟨nq, by rw [HS.out]; rfl, rfl⟩
                  · have b2 : (q : Int) < 255 := by omega
                    have sw : IntKind.i64.wrap ((i : Int) + (q : Int)) = (i : Int) + q := IntWalk.i64_in _ (by omega)
                    by_cases t1 : i + q = L
                    · have hs : stopB q (x :: r) = true := by simp only [stopB, HXL.out]; simp; omega
                      have b1 : ¬ ((i : Int) + (q : Int) < (L : Int)) := by omega
                      have HS := hide hs
                      clear hs t2 cq cx t1
                      go_quiet (fail)
                      go_wp2_with fail
                      go_meet
                      exact ⟨nq, by rw [HS.out]; rfl, rfl⟩
                    · have b1 : (i : Int) + (q : Int) < (L : Int) := by omega
                      have tn : ((i : Int) + (q : Int)).toNat = i + q := by omega
                      have b0 : 0 ≤ (i : Int) + (q : Int) := by omega
                      obtain ⟨y, hy, cy⟩ := cq (by omega)
                      have hs : (!stopB q (x :: r)) = ((y.toNat : Int) == (x.toNat : Int)) := by
                        have e : (y.toNat : Int) = (x.toNat : Int) ↔ y = x := by
                          constructor
                          · intro h; exact UInt8.toNat_inj.1 (by omega)
                          · intro h; rw [h]
                        have hl := HXL.out
                        have t3 : ¬ q = L - i := by omega
                        simp only [stopB, hl, hy, t3, t2, decide_false, Bool.false_or, Bool.not_not]
                        rw [Bool.eq_iff_iff]
                        simp [e]
                      have HS := hide hs
                      clear hs t2 t1 hy cq
                      go_quiet (fail)
                      go_wp2_with fail
                      go_meet
                      exact ⟨nq, by rw [HS.out], rfl⟩
                case rest =>
                  obtain ⟨nq, rfl, rfl⟩ := hcut
                  cases hs : stopB q (x :: r) with
                  | false =>
                    obtain ⟨n1, n2, n3⟩ := stop_no hs (by rw [HXL.out]; omega) HX.out
                    rw [HXL.out] at n2
                    have N3 := hide n3
                    clear n3 hs cq cx
                    go_wp2
                    go_roundg (gk - 1)
                    case measure => omega
                    case rel => exact ⟨q + 1, by omega, by omega, by omega, by go_num, N3, hoo.drewN _, drewN_below hbb _⟩
                  | true =>
                    have hrl := stop_len hq1 (by omega) (by rw [HXL.out]; omega) HX.out hs
                    have HRUN : Hid (runs (x :: r) = UInt8.ofNat q :: x :: runs ((x :: r).drop q)) := by show _ = _; rw [runs_cons, hrl]
                    have hqb : (q : Int) ≤ 255 := by omega
                    have hacc : acc.length ≤ 12 + 2 * 4194304 := HACC.out acc (by rw [← HTT.out]; simp)
                    have hm2 : m2 = acc.length := by have := hoo.1; rw [bytesV_length] at this; omega
                    have hnew : Row (((wr.drewN nq)).alloc (.cells #[.int .u8 (q : Int), .int .u8 (x.toNat : Int)] 5)) (some ⟨wr.heap.size, 0, none⟩) (bytesV [UInt8.ofNat q, x]) := Row.new_at _ _ _ _ _ _ (by simp [bytesV]; omega) rfl
                    have HM2 := hide hm2
                    have hm2' : m2 ≤ 12 + 2 * 4194304 := by omega
                    clear hs hrl cq hm2 hacc
                    go_wp2_with (at_builtin; refine wpList_append_row _ rfl _ _ 22 rfl w1.heap.size 5 i0 (.int .u8 0) 1 1 Try.underlying22 hi hz0 hz1 hz2 rfl (by decide) _ m2 (bytesV acc) rfl ((hoo.drewN nq).alloc _) (some ⟨wr.heap.size, 0, none⟩) 2 2 (bytesV [UInt8.ofNat q, x]) rfl rfl hnew (bytesV_one _) ?_ ?_ ?_ ?_)
                    · unfold maxLen; omega
                    · omega
                    · have := hbb.size; simp; omega
                    · intro v3 w3 hown3 hg3 hat3
                      have hacc3 : Own w3 w1.heap.size 1 v3 (m2 + 2) (bytesV (acc ++ [UInt8.ofNat q, x])) := by rw [bytesV_append]; exact hown3
                      have hb3 : Below w1.heap.size w1 w3 := below_append ((drewN_below hbb nq).alloc (by have := hbb.size; simpa using this) _) ((hoo.drewN nq).alloc _) (Nat.le_refl _) (by have := hbb.size; simp; omega) hg3
                      have hT3 : Hid (acc ++ [UInt8.ofNat q, x] ++ runs (R.drop (i + q)) = tot) := by
                        show _ = _
                        rw [← HTT.out, HXR.out, HRUN.out, ← List.drop_drop, HXR.out]; simp
                      have FACT := hide (And.intro hacc3 (And.intro hb3 hT3))
                      clear hacc3 hb3 hT3 hown3 hg3 hat3
                      go_wp2
                      go_roundg (L - (i + q))
                      case measure => omega
                      case rel =>
                        obtain ⟨hacc3, hb3, hT3⟩ := FACT.out
                        exact ⟨acc ++ [UInt8.ofNat q, x], i + q, m2 + 2, hqL, Nat.le_refl _, by go_num, hacc3, hT3, hb3⟩
end Go.Proofs.Ytbhgcbgaadnfpaa
