/- picture.Write, walked: the bytes of every picture, or the error. -/
import Derived.Test.YtbhgcbgaadnfpaaPicB
import Derived.Test.YtbhgcbgaadnfpaaHeld
import Derived.Deep.RegionHeld3
import Derived.Deep.DeepCutAuto
import Derived.Deep.LoopGhost
import Derived.Lib.SlBytesConst
namespace Go.Proofs.Ytbhgcbgaadnfpaa
open Go.RowKit

set_option maxRecDepth 100000 in
set_option maxHeartbeats 400000 in
theorem write_bad (a d : Int) (A : Option Addr) (n c : Nat) (w : World) (ha : -9223372036854775808 ≤ a) (ha' : a ≤ 9223372036854775807) (hd : -9223372036854775808 ≤ d) (hd' : d ≤ 9223372036854775807) (hn : n ≤ 9223372036854775807) (hm : mayB a d n = false) :
    Calls Try.prog 13 #[.agg #[.int .i64 a, .int .i64 d, .slice A n c]] w fun e w' => e = .returned (.tuple #[.string ⟨#[]⟩, .int .i64 290]) ∧ Kept w w' := by
  have hc : checkI a d n = 290 := by simp [checkI, hm]
  go_enter Try.func13, Try.ntmps13
  go_wp2_with (go_at_call 20; refine (check_any _ _ _ _ _ _ (by omega) (by omega) (by omega) (by omega) (by omega)).mono ?_; rintro e w1 ⟨rfl, hk1⟩)
  go_ret2
  exact ⟨rfl, (((Below.refl _ _).alloc (Nat.le_refl _) _).trans (hk1.mono (by simp)))⟩

set_option maxRecDepth 100000 in
set_option maxHeartbeats 400000 in
theorem write_good (a d : Int) (A : Option Addr) (n c : Nat) (g : List UInt8) (w : World) (hm : mayB a d n = true) (hnc : n ≤ c) (hl : g.length = n) (hr : Row w A (bytesV g)) :
    Calls Try.prog 13 #[.agg #[.int .i64 a, .int .i64 d, .slice A n c]] w fun e w' => e = .returned (.tuple #[.string ⟨(writeL a.toNat d.toNat g).toArray⟩, .int .i64 0]) ∧ Kept w w' := by
  obtain ⟨i0, hi, hz0, hz1, hz2⟩ := info_parts info_u8
  obtain ⟨h1, h2, h3, h4, h5, h6, h7⟩ := mayB_bounds hm
  have hc : checkI a d n = 0 := by simp [checkI, hm]
  have HC := hide hc
  have HM := hide hm
  have HL := hide hl
  have H5 := hide h5
  clear hc hm hl h5
  have kc := fun (W : World) (C : Array Value) (n c : Nat) => run_const_drew (P := Try.prog) W 22 5 C n c Try.underlying22 Try.underlying5
  go_enter Try.func13, Try.ntmps13
  go_upto_region 4 with (go_at_call 20; refine (check_any _ _ _ _ _ _ (by omega) (by omega) (by omega) (by omega) (by omega)).mono ?_; rintro e w1 ⟨rfl, hk1⟩; rw [HC.out]; have hc1 := hk1.cells; have hz := hk1.size; simp at hz)
  go_cut [5] (fun s5 wx => Own wx w1.heap.size 1 s5 12 (bytesV (headB a.toNat d.toNat)) ∧ Below w1.heap.size w1 wx)
  case first =>
    have ca : w1.cell? ⟨w.heap.size, 0, none⟩ = some (.int .i64 a) := by rw [hk1.cells _ _ (by simp)]; simp
    have cd : w1.cell? ⟨w.heap.size, 1, none⟩ = some (.int .i64 d) := by rw [hk1.cells _ _ (by simp)]; simp
    have hz' : w.heap.size < w1.heap.size := hz
    have hown0 : Own (w1.alloc (.cells #[.int .u8 70, .int .u8 76, .int .u8 80, .int .u8 1] 5 (4, 5))).drew w1.heap.size 1 (.slice (some ⟨w1.heap.size, 0, none⟩) 4 4) 4 (bytesV [70, 76, 80, 1]) := (Own.new w1 _ _ _ 4 1 _ w1.heap.size w1.heap.size rfl (Nat.le_refl _) (by simp [maxLen]) rfl rfl (by simp)).drew
    have cdw : (w1.alloc (.cells #[.int .u8 70, .int .u8 76, .int .u8 80, .int .u8 1] 5 (4, 5))).drew.cell? ⟨w.heap.size, 1, none⟩ = some (.int .i64 d) := (World.cell?_alloc_lt w1 _ ⟨w.heap.size, 1, none⟩ hz').trans cd
    have caw : (w1.alloc (.cells #[.int .u8 70, .int .u8 76, .int .u8 80, .int .u8 1] 5 (4, 5))).drew.cell? ⟨w.heap.size, 0, none⟩ = some (.int .i64 a) := (World.cell?_alloc_lt w1 _ ⟨w.heap.size, 0, none⟩ hz').trans ca
    clear hc1 hz
    clear hr HC HM HL H5 hnc hi hz0 hz1 hz2 hk1
    refine wp_region_L (fun w' => w'.cell? ⟨w.heap.size, 0, none⟩ = some (.int .i64 a) ∧ w'.cell? ⟨w.heap.size, 1, none⟩ = some (.int .i64 d)) 999 (by kernel_rfl) ?_ (fun hHeld => ?_)
    · go_keep
    refine wpAnyL_take (i := 2) (v := ?_) (some 16) rfl rfl (by kernel_rfl) (by kernel_rfl) (by kernel_rfl) (by kernel_rfl) (fun _ _ _ h => h) (Or.inl ⟨by rfl, ?_⟩) (by assumption) ?_
    rotate_left
    · intro w hSw; (try dsimp only at hSw); go_simp; (try with_reducible rfl)
    try simp only [Act.put, List.setIfInBounds_toArray, List.set_cons_zero, List.set_cons_succ]
    refine wpAnyL_take (i := 3) (v := ?_) (some 17) rfl rfl (by kernel_rfl) (by kernel_rfl) (by kernel_rfl) (by kernel_rfl) (fun _ _ _ h => h) (Or.inl ⟨by rfl, ?_⟩) (by assumption) ?_
    rotate_left
    · intro w hSw; (try dsimp only at hSw); go_simp; (try with_reducible rfl)
    try simp only [Act.put, List.setIfInBounds_toArray, List.set_cons_zero, List.set_cons_succ]
    refine wpAnyL_take (i := 5) (v := ?_) (some 19) rfl rfl (by kernel_rfl) (by kernel_rfl) (by kernel_rfl) (by kernel_rfl) (fun _ _ _ h => h) (Or.inl ⟨by rfl, ?_⟩) (by assumption) ?_
    rotate_left
    · intro w hSw; (try dsimp only at hSw); go_simp; (try with_reducible rfl)
    try simp only [Act.put, List.setIfInBounds_toArray, List.set_cons_zero, List.set_cons_succ]
    refine wpAnyL_take (i := 6) (v := ?_) (some 20) rfl rfl (by kernel_rfl) (by kernel_rfl) (by kernel_rfl) (by kernel_rfl) (fun _ _ _ h => h) (Or.inl ⟨by rfl, ?_⟩) (by assumption) ?_
    rotate_left
    · intro w hSw; (try dsimp only at hSw); go_simp; (try with_reducible rfl)
    try simp only [Act.put, List.setIfInBounds_toArray, List.set_cons_zero, List.set_cons_succ]
    refine wpAnyL_one (i := 0) (by kernel_rfl) rfl (fun K hK => ?_)
    go_simp
    refine hK.out _ _ ?_ (fun hHeld => ?_)
    · go_keep
    clear hK K
    try simp only [Act.put, List.setIfInBounds_toArray, List.set_cons_zero, List.set_cons_succ]
    refine wpAnyL_one (i := 1) (by kernel_rfl) rfl (fun K hK => ?_)
    go_simp
    refine hK.out _ _ ?_ (fun hHeld => ?_)
    · go_keep
    clear hK K
    try simp only [Act.put, List.setIfInBounds_toArray, List.set_cons_zero, List.set_cons_succ]
    refine wpAnyL_one (i := 4) (by kernel_rfl) rfl (fun K hK => ?_)
    go_simp
    (refine (four_any _ 4 (bytesV [70, 76, 80, 1]) a _ w1.heap.size (by simp) (by omega) (by omega) (by omega) hown0).mono ?_; rintro e w2 ⟨v1, rfl, hown1, hb1⟩; have hz2 := hb1.size; simp at hz2; have cd2 := (hb1.cell (p := ⟨w.heap.size, 1, none⟩) hz').trans cdw; have ca2 := (hb1.cell (p := ⟨w.heap.size, 0, none⟩) hz').trans caw)
    refine hK.out _ _ ?_ (fun hHeld => ?_)
    · go_keep
    clear hK K
    try simp only [Act.put, List.setIfInBounds_toArray, List.set_cons_zero, List.set_cons_succ]
    refine wpAnyL_one (i := 7) (by kernel_rfl) rfl (fun K hK => ?_)
    go_simp
    (refine (four_any v1 8 (bytesV [70, 76, 80, 1] ++ bytesV (be4 a.toNat)) d _ w1.heap.size (by omega) (by omega) (by omega) (by omega) hown1).mono ?_; rintro e w3 ⟨v2, rfl, hown2, hb2⟩; have cd3 := (hb2.cell (p := ⟨w.heap.size, 1, none⟩) hz').trans cd2; have ca3 := (hb2.cell (p := ⟨w.heap.size, 0, none⟩) hz').trans ca2)
    refine hK.out _ _ ?_ (fun hHeld => ?_)
    · go_keep
    clear hK K
    try simp only [Act.put, List.setIfInBounds_toArray, List.set_cons_zero, List.set_cons_succ]
    refine wpAnyL_one (i := 8) (by kernel_rfl) rfl (fun K hK => ?_)
    go_simp
    refine hK.out _ _ ?_ (fun hHeld => ?_)
    · go_keep
    clear hK K
    try simp only [Act.put, List.setIfInBounds_toArray, List.set_cons_zero, List.set_cons_succ]
    refine wpAnyL_done (by kernel_rfl) ?_ _
    go_wp2_with fail
    go_meet
    exact ⟨hown2, ((Below.refl _ w1).alloc (Nat.le_refl _) _).drew.trans (hb1.trans hb2)⟩
  case rest =>
    obtain ⟨hown, hbw⟩ := hcut
    have hz' : w.heap.size < w1.heap.size := hz
    have box : ∀ W, Below w1.heap.size w1 W → (W.cell? ⟨w.heap.size, 0, none⟩ = some (.int .i64 a) ∧ W.cell? ⟨w.heap.size, 1, none⟩ = some (.int .i64 d) ∧ W.cell? ⟨w.heap.size, 2, none⟩ = some (.slice A n c)) ∧ Row W A (bytesV g) := fun W hW => by
      have e : ∀ o, W.cell? ⟨w.heap.size, o, none⟩ = (w.alloc (.cells #[.int .i64 a, .int .i64 d, .slice A n c] 24)).cell? ⟨w.heap.size, o, none⟩ := fun o => (hW.cell (p := ⟨w.heap.size, o, none⟩) hz').trans (hk1.cells _ _ (by simp))
      exact ⟨⟨by rw [e]; simp, by rw [e]; simp, by rw [e]; simp⟩, ((hr.alloc _).kept hk1).kept hW⟩
    have BOX := hide box
    clear box hc1 hz
    obtain ⟨⟨c0, c1, c2⟩, -⟩ := BOX.out wc hbw
    go_wp2
    go_loopg [5, 24] d.toNat (fun gh v ix wr => ∃ k m : Nat, k + gh = d.toNat ∧ ix = .int .i64 k ∧ Own wr w1.heap.size 1 v m (bytesV (headB a.toNat d.toNat ++ runsTo a.toNat g k)) ∧ Below w1.heap.size w1 wr)
    case atStart => exact ⟨0, 12, by omega, rfl, by simpa [runsTo] using hown, hbw⟩
    case round =>
      obtain ⟨k, m, hkg, rfl, hown, hbr⟩ := hrel
      obtain ⟨⟨c0, c1, c2⟩, hrr⟩ := BOX.out wr hbr
      cases gk with
      | zero =>
        have hk : (k : Int) = d := by omega
        have hge : ¬ (k : Int) < d := by omega
        obtain ⟨A5, c5, rfl, hmc, hcm, hr5, -, -⟩ := hown.form
        have hlen5 := hown.1
        rw [bytesV_length, Nat.mul_one] at hlen5
        have kv : (convert 22 9 (.slice A5 m c5)).run Try.prog wr = .ok (.string ⟨(writeL a.toNat d.toNat g).toArray⟩) wr := by
          have h := conv_row (P := Try.prog) Try.underlying22 Try.underlying5 Try.underlying9 (c := c5) hlen5 hr5
          have hkd : k = d.toNat := by omega
          rw [hkd] at h
          exact h
        clear hlen5 hk hown hr5
        go_wp2
        go_ret2
        exact ⟨rfl, ((Below.refl _ _).alloc (Nat.le_refl _) _).trans ((hk1.mono (by simp)).trans (hbr.mono (by omega)))⟩
      | succ gh =>
        have hlt : (k : Int) < d := by omega
        go_wp2_with fail
        go_step3
        go_wp2_with (go_at_call 46; refine (row_any a d A n c k _ HM.out (by omega) hlt hnc).mono ?_; rintro e w2 ⟨⟨A2, rfl, hA2⟩, hk2⟩)
        have hR : (bytesV g |>.drop ((k : Int).toNat * a.toNat)).take a.toNat = bytesV (rowOf a.toNat g k) := by simp [rowOf, bytesV_drop, bytesV_take]
        have hrw2 := hA2 w1 (bytesV g) (BOX.out w1 (Below.refl _ _)).2
        rw [hR] at hrw2
        have hRL : (rowOf a.toNat g k).length = a.toNat := by
          have h7 : (k + 1) * a.toNat ≤ d.toNat * a.toNat := Nat.mul_le_mul_right _ (by omega)
          have h8 : ((d.toNat * a.toNat : Nat) : Int) = d * a := by rw [Int.natCast_mul, Int.toNat_of_nonneg (by omega), Int.toNat_of_nonneg (by omega)]
          have h9 := H5.out
          have h10 := HL.out
          rw [Int.mul_comm] at h9
          rw [Nat.add_mul] at h7
          simp [rowOf]
          omega
        have hb2 := hbr.trans (hk2.mono hbr.size)
        have ho2 := hown.kept hk2
        have HT : Hid ((headB a.toNat d.toNat ++ runsTo a.toNat g k) ++ runs (rowOf a.toNat g k) = headB a.toNat d.toNat ++ runsTo a.toNat g (k + 1)) := by
          show _ = _
          rw [List.append_assoc]; rfl
        have HRL := hide hRL
        clear hR hRL hA2 hk2 hrr hown
        go_step3
        go_wp2
        obtain ⟨acc0, hacc0⟩ : ∃ acc0, acc0 = headB a.toNat d.toNat ++ runsTo a.toNat g k := ⟨_, rfl⟩
        rw [← hacc0] at ho2
        have HT2 : Hid (acc0 ++ runs (rowOf a.toNat g k) = headB a.toNat d.toNat ++ runsTo a.toNat g (k + 1)) := by rw [hacc0]; exact HT
        clear hacc0 HT
        go_loopg [5, 7] a.toNat (fun g2 v l wx => ∃ (acc rest : List UInt8) (A3 : Option Addr) (L m : Nat), L ≤ g2 ∧ l = .slice A3 L L ∧ Hid (rest.length = L) ∧ Row w1 A3 (bytesV rest) ∧ Own wx w1.heap.size 1 v m (bytesV acc) ∧
          Hid (acc ++ runs rest = headB a.toNat d.toNat ++ runsTo a.toNat g (k + 1)) ∧ Below w1.heap.size w1 wx)
        case atStart => exact ⟨acc0, rowOf a.toNat g k, A2, a.toNat, m, Nat.le_refl _, rfl, HRL, hrw2, ho2, HT2, hb2⟩
        case round =>
          clear ho2 hrw2 HT2 hb2 HRL
          obtain ⟨acc, rest, A3, L, m2, hLg, rfl, HLr, hrr, hoo, HTT, hbb⟩ := hrel
          cases rest with
          | nil =>
            have hL0 : L = 0 := by simpa using HLr.out.symm
            subst hL0
            go_wp2
            rw [Exit.noGoto_normal]
            go_wp2
            go_roundg gh
            case measure => omega
            case rel => exact ⟨k + 1, m2, by omega, by go_num, by rw [← HTT.out, runs_nil, List.append_nil]; exact hoo, hbb⟩
          | cons x r =>
            have hL1 : 1 ≤ L := by have := HLr.out; simp at this; omega
            have hgt : (0 : Int) < (L : Int) := by omega
            obtain ⟨bb, oo, rfl, -⟩ := hrr.at_ (k := 0) (by simp [bytesV])
            go_wp2
            go_loopg [5, 7, 8] 254 (fun g3 s5 s7 s8 wy => ∃ q : Nat, q + g3 = 255 ∧ 1 ≤ q ∧ q ≤ L ∧ s7 = .slice (some ⟨bb, oo, none⟩) L L ∧ s8 = .int .i64 q ∧ Hid (∀ i, i < q → (x :: r)[i]? = some x) ∧ 
              Own wy w1.heap.size 1 s5 m2 (bytesV acc) ∧ Below w1.heap.size w1 wy)
            case atStart => exact ⟨1, by omega, by omega, hL1, rfl, rfl, fun i hi => by (have : i = 0 := by omega); subst this; rfl, hoo, hbb⟩
            case round =>
              clear hoo hbb
              obtain ⟨q, hqg, hq1, hqL, rfl, rfl, HX, hoo, hbb⟩ := hrel
              have hrrw := hrr.kept hbb
              have cx : wr.cell? ⟨bb, oo, none⟩ = some (.int .u8 (x.toNat : Int)) := by
                rcases hrrw with h | ⟨b, off, h, hc⟩
                · simp [bytesV] at h
                · injection h with h; injection h with h1 h2; subst h1; subst h2
                  exact hc 0 _ (by simp [bytesV])
              have cq : q < L → ∃ y, (x :: r)[q]? = some y ∧ wr.cell? ⟨bb, oo + q, none⟩ = some (.int .u8 (y.toNat : Int)) := fun hq => by
                have hl := HLr.out
                have hq2 : q < (x :: r).length := by omega
                rcases hrrw with h | ⟨b, off, h, hc⟩
                · simp [bytesV] at h
                · injection h with h; injection h with h1 h2; subst h1; subst h2
                  exact ⟨(x :: r)[q], List.getElem?_eq_getElem hq2, hc q _ (bytesV_get _ q hq2)⟩
              clear hrrw
              go_upto_region 12 with fail
              go_cut [52] (fun s52 wx => ∃ nq : Nat, s52 = .bool (stopB q (x :: r)) ∧ wr.drewN nq = wx)
              case first =>
                by_cases t1 : q = L
                · have hs : stopB q (x :: r) = true := by simp only [stopB, HLr.out]; simp [t1]
                  have b1 : ((q : Int) == (L : Int)) = true := by simp [t1]
                  have HS := hide hs
                  clear hs t1 cq cx
                  go_quiet (fail)
                  go_wp2_with fail
                  go_meet
                  exact ⟨nq, by rw [HS.out], rfl⟩
                · have b1 : ((q : Int) == (L : Int)) = false := by simp; omega
                  have hqlt : q < L := by omega
                  have hqi : (q : Int) < (L : Int) := by omega
                  have hLi : (0 : Int) < (L : Int) := by omega
                  by_cases t2 : q = 255
                  · have hs : stopB q (x :: r) = true := by simp [stopB, t2]
                    have b2 : ((q : Int) == 255) = true := by simp [t2]
                    have HS := hide hs
                    clear hs t2 cq cx t1
                    go_quiet (fail)
                    go_wp2_with fail
                    go_meet
                    exact ⟨nq, by rw [HS.out], rfl⟩
                  · have b2 : ((q : Int) == 255) = false := by simp; omega
                    obtain ⟨y, hy, cy⟩ := cq hqlt
                    have hs : stopB q (x :: r) = ((y.toNat : Int) != (x.toNat : Int)) := by
                      have e : (y.toNat : Int) = (x.toNat : Int) ↔ y = x := by
                        constructor
                        · intro h; exact UInt8.toNat_inj.1 (by omega)
                        · intro h; rw [h]
                      have hl := HLr.out
                      simp only [stopB, hl, hy, t1, t2, decide_false, Bool.false_or]
                      rw [Bool.eq_iff_iff]
                      simp [e]
                    have HS := hide hs
                    clear hs t2 t1 hy cq
                    go_quiet (fail)
                    go_wp2_with fail
                    go_meet
                    exact ⟨nq, by rw [HS.out], rfl⟩
              case rest =>
                obtain ⟨nq, rfl, rfl⟩ := hcut
                cases hs : stopB q (x :: r) with
                | false =>
                  obtain ⟨n1, n2, n3⟩ := stop_no hs (by rw [HLr.out]; exact hqL) HX.out
                  rw [HLr.out] at n2
                  have N3 := hide n3
                  clear n3 hs cq cx
                  go_wp2
                  go_roundg (gk - 1)
                  case measure => omega
                  case rel => exact ⟨q + 1, by omega, by omega, n2, rfl, by go_num, N3, hoo.drewN _, drewN_below hbb _⟩
                | true =>
                  have hrl := stop_len hq1 (by omega) (by rw [HLr.out]; exact hqL) HX.out hs
                  have HRUN : Hid (runs (x :: r) = UInt8.ofNat q :: x :: runs ((x :: r).drop q)) := by show _ = _; rw [runs_cons, hrl]
                  have hqb : (q : Int) ≤ 255 := by omega
                  have hLi : (0 : Int) < (L : Int) := by omega
                  have hqi : (q : Int) ≤ (L : Int) := by omega
                  have hacc : acc.length ≤ 12 + 2 * 4194304 := by
                    have h9 := congrArg List.length HTT.out
                    have h10 := runsTo_le a.toNat d.toNat n g (k + 1) (by
                      have h11 := H5.out
                      have h12 : ((a.toNat * d.toNat : Nat) : Int) = a * d := by rw [Int.natCast_mul, Int.toNat_of_nonneg (by omega), Int.toNat_of_nonneg (by omega)]
                      omega) (by omega)
                    simp only [List.length_append, headB_length] at h9
                    omega
                  have hm2 : m2 = acc.length := by have := hoo.1; rw [bytesV_length] at this; omega
                  have hnew : Row (((wr.drewN nq)).alloc (.cells #[.int .u8 (q : Int), .int .u8 (x.toNat : Int)] 5)) (some ⟨wr.heap.size, 0, none⟩) (bytesV [UInt8.ofNat q, x]) := Row.new_at _ _ _ _ _ _ (by simp [bytesV]; omega) rfl
                  have HM2 := hide hm2
                  have hm2' : m2 ≤ 12 + 2 * 4194304 := by omega
                  clear hs hrl cq hm2 hacc
                  go_wp2_with (at_builtin; refine wpList_append_row _ rfl _ _ 22 rfl w1.heap.size 5 i0 (.int .u8 0) 1 1 Try.underlying22 hi hz0 hz1 hz2 rfl (by decide) _ m2 (bytesV acc) rfl ((hoo.drewN nq).alloc _) (some ⟨wr.heap.size, 0, none⟩) 2 2 (bytesV [UInt8.ofNat q, x]) rfl rfl hnew (bytesV_one _) ?_ ?_ ?_ ?_)
                  · unfold maxLen; omega
                  · omega
                  · have := hbb.size; simp; omega
                  · intro v3 w3 hown3 hg3 hat3
                    have hacc3 : Own w3 w1.heap.size 1 v3 (m2 + 2) (bytesV (acc ++ [UInt8.ofNat q, x])) := by rw [bytesV_append]; exact hown3
                    have hb3 : Below w1.heap.size w1 w3 := below_append ((drewN_below hbb nq).alloc (by have := hbb.size; simpa using this) _) ((hoo.drewN nq).alloc _) (Nat.le_refl _) (by have := hbb.size; simp; omega) hg3
                    have hT3 : Hid (acc ++ [UInt8.ofNat q, x] ++ runs ((x :: r).drop q) = headB a.toNat d.toNat ++ runsTo a.toNat g (k + 1)) := by
                      show _ = _
                      rw [← HTT.out, HRUN.out]; simp
                    have hl3 : ((x :: r).drop q).length = L - q := by rw [List.length_drop, HLr.out]
                    have hr3 : Row w1 (some ⟨bb, oo + q, none⟩) (bytesV ((x :: r).drop q)) := by
                      have := hrr.drop q
                      rwa [bytesV_drop, Option.map_some, add_zero_addr] at this
                    have FACT := hide (And.intro hacc3 (And.intro hb3 (And.intro hT3 (And.intro hl3 hr3))))
                    clear hacc3 hb3 hT3 hl3 hr3 hown3 hg3 hat3
                    go_wp2
                    all_goals obtain ⟨hacc3, hb3, hT3, hl3, hr3⟩ := FACT.out
                    · go_roundg (L - q)
                      case measure => omega
                      case rel =>
                        have hz3 : L - q = 0 := by omega
                        have hnil : (x :: r).drop q = [] := List.eq_nil_of_length_eq_zero (by omega)
                        rw [hnil] at hT3
                        exact ⟨acc ++ [UInt8.ofNat q, x], [], _, 0, m2 + 2, by omega, rfl, rfl, Row.nil, hacc3, hT3, hb3⟩
                    · go_roundg (L - q)
                      case measure => omega
                      case rel => exact ⟨acc ++ [UInt8.ofNat q, x], (x :: r).drop q, _, L - q, m2 + 2, by omega, rfl, hl3, hr3, hacc3, hT3, hb3⟩
end Go.Proofs.Ytbhgcbgaadnfpaa
