/- filigreelaw29.sheet (a sheet, as the law's own words put it together), walked. -/
import Derived.Test.YtbhgcbgaadnfpaaSheetA
import Derived.Test.YtbhgcbgaadnfpaaRBelow
import Derived.Test.YtbhgcbgaadnfpaaRBeside
namespace Go.Proofs.Ytbhgcbgaadnfpaa
open Go.RowKit Go.Shelf

/-- The law's error: it does not ask for the window's size itself. -/
def sheetRE (g : GrD) (ps : List PicD) : Int :=
  if gridI g ≠ 0 then gridI g else if allE ps ≠ 0 then allE ps else if (ps.length : Int) ≠ gridA g * gridD g then 291
  else if fitsB g ps = false then 291 else if rowsE (sheetRows g ps) ≠ 0 then rowsE (sheetRows g ps) else belowE ((sheetRows g ps).map besideP)

theorem rsheet_boxes (g : GrD) (w W0 : World) (hW0 : W0 = (w.alloc (.cells #[.bool g.re.neg, .string g.re.n, .int .i64 g.re.e, .bool g.im.neg, .string g.im.n, .int .i64 g.im.e, .int .i64 g.exp, .int .i64 g.across, .int .i64 g.down, .int .i64 g.wide, .int .i64 g.high] 82)).alloc (.cells #[.int .i64 0, .int .i64 0, .slice none 0 0] 24)) :
    ∀ W, Kept W0 W → Kept w W ∧ GBox W w.heap.size g ∧ PBox W (w.heap.size + 1) (.int .i64 0) (.int .i64 0) (.slice none 0 0) ∧ w.heap.size + 1 < W.heap.size := by
  have sz0 : W0.heap.size = w.heap.size + 2 := by rw [hW0]; simp
  have K0 : Kept w W0 := by rw [hW0]; exact ((Below.refl _ _).alloc (Nat.le_refl _) _).alloc (by simp) _
  intro W hW
  have g0 : GBox W0 w.heap.size g := by
    rw [hW0]
    exact (GBox.new w g _ _ rfl).below ((Below.refl _ _).alloc (Nat.le_refl _) _) (by simp)
  have r0 : PBox W0 (w.heap.size + 1) (.int .i64 0) (.int .i64 0) (.slice none 0 0) := by
    rw [hW0]
    exact PBox.new _ _ _ _ _ _ (by simp)
  have hW' : Below W0.heap.size W0 W := hW
  exact ⟨K0.trans (hW'.mono K0.size), g0.below hW' (by omega), r0.kept hW, by have := hW'.size; omega⟩

set_option maxRecDepth 100000 in
set_option maxHeartbeats 1600000 in
theorem rsheet_grid (g : GrD) (A : Option Addr) (c L : Nat) (ps : List PicD) (w : World) (hg : g.ok) (hI : ¬ gridI g = 0) :
    Calls Try.prog 41 #[.agg #[.bool g.re.neg, .string g.re.n, .int .i64 g.re.e, .bool g.im.neg, .string g.im.n, .int .i64 g.im.e, .int .i64 g.exp, .int .i64 g.across, .int .i64 g.down, .int .i64 g.wide, .int .i64 g.high], .slice A L c] w (PutPost w (sheetRE g ps) (sheetP g ps)) := by
  have CC : Hid (∀ W, Calls Try.prog 42 #[.agg #[.bool g.re.neg, .string g.re.n, .int .i64 g.re.e, .bool g.im.neg, .string g.im.n, .int .i64 g.im.e, .int .i64 g.exp, .int .i64 g.across, .int .i64 g.down, .int .i64 g.wide, .int .i64 g.high]] W fun e w' => e = .returned (.tuple #[.int .i64 0, .int .i64 0, .int .i64 (gridI g)]) ∧ Kept W w') := fun W => by
    have := tcount_any g W hg
    rwa [show cntA g = 0 by simp [cntA, hI], show cntD g = 0 by simp [cntD, hI]] at this
  have HSE : Hid (sheetRE g ps = gridI g) := by show _ = _; unfold sheetRE; rw [if_pos hI]
  have HI := hide hI
  have hn : (gridI g != 0) = true := by simp [hI]
  obtain ⟨W0, hW0⟩ : ∃ W0, W0 = (w.alloc (.cells #[.bool g.re.neg, .string g.re.n, .int .i64 g.re.e, .bool g.im.neg, .string g.im.n, .int .i64 g.im.e, .int .i64 g.exp, .int .i64 g.across, .int .i64 g.down, .int .i64 g.wide, .int .i64 g.high] 82)).alloc (.cells #[.int .i64 0, .int .i64 0, .slice none 0 0] 24) := ⟨_, rfl⟩
  have S0 := hide (rsheet_boxes g w W0 hW0)
  clear hI hg
  go_enter Try.func41, Try.ntmps41
  go_wp2_with fail
  rw [← hW0]
  clear hW0
  refine (CC.out _).mono ?_
  rintro e w1 ⟨rfl, hk1⟩
  obtain ⟨KW, ⟨q0, q1, q2, q3, q4, q5, q6, q7, q8, q9, q10⟩, rb, hlt1⟩ := S0.out w1 hk1
  have p0 := rb.c0
  have p1 := rb.c1
  have p2 := rb.c2
  have p3 := rb.f0
  have p4 := rb.f1
  have p5 := rb.f2
  clear q0 q1 q2 q3 q4 q5 q6 q7 q8 q9 q10
  clear hk1
  go_wp2_with fail
  have rs := rb.stored (.int .i64 0) (.int .i64 0) (.slice none 0 0)
  have c0 := rs.c0
  have c1 := rs.c1
  have c2 := rs.c2
  have hks : Kept w (World.store3 w1 (w.heap.size + 1) (.int .i64 0) (.int .i64 0) (.slice none 0 0)) := ((KW.setCell (Nat.le_succ _) _).setCell (Nat.le_succ _) _).setCell (Nat.le_succ _) _
  simp only [World.store3] at c0 c1 c2 hks
  exact bodyPost_ret (v := .tuple #[.agg #[.int .i64 0, .int .i64 0, .slice none 0 0], .int .i64 (gridI g)]) (by simp [results, Try.results41, go_sem, c0, c1, c2]) rfl (by rw [HSE.out]; exact PutPost.err HI.out hks)

set_option maxRecDepth 100000 in
set_option maxHeartbeats 3200000 in
theorem rsheet_good (g : GrD) (A : Option Addr) (c L : Nat) (ps : List PicD) (w : World) (hg : g.ok) (hp : Pics w A ps) (hl : L ≤ 1000000) (hLd : L = ps.length) (hcL : L ≤ c) (hI : gridI g = 0) :
    Calls Try.prog 41 #[.agg #[.bool g.re.neg, .string g.re.n, .int .i64 g.re.e, .bool g.im.neg, .string g.im.n, .int .i64 g.im.e, .int .i64 g.exp, .int .i64 g.across, .int .i64 g.down, .int .i64 g.wide, .int .i64 g.high], .slice A L c] w (PutPost w (sheetRE g ps) (sheetP g ps)) := by
  have CC : Hid (∀ W, Calls Try.prog 42 #[.agg #[.bool g.re.neg, .string g.re.n, .int .i64 g.re.e, .bool g.im.neg, .string g.im.n, .int .i64 g.im.e, .int .i64 g.exp, .int .i64 g.across, .int .i64 g.down, .int .i64 g.wide, .int .i64 g.high]] W fun e w' => e = .returned (.tuple #[.int .i64 (gridA g), .int .i64 (gridD g), .int .i64 0]) ∧ Kept W w') := fun W => by
    have := tcount_any g W hg
    rwa [show cntA g = gridA g by simp [cntA, hI], show cntD g = gridD g by simp [cntD, hI], hI] at this
  have CR : Hid (∀ (W : World) (k : Nat), (k : Int) < gridA g * gridD g → Calls Try.prog 58 #[.agg #[.bool g.re.neg, .string g.re.n, .int .i64 g.re.e, .bool g.im.neg, .string g.im.n, .int .i64 g.im.e, .int .i64 g.exp, .int .i64 g.across, .int .i64 g.down, .int .i64 g.wide, .int .i64 g.high], .int .i64 k] W fun e w' => e = .returned (.tuple #[.agg #[.int .i64 (rectX g k), .int .i64 (rectY g k), .int .i64 (rectW g k), .int .i64 (rectH g k)], .int .i64 0]) ∧ Kept W w') := fun W k hk => by
    have hm := (gridI_ok hI).2
    refine (trect_any g k W hg (by omega) (by omega)).mono fun e w' h => ?_
    unfold RectPost at h
    rw [if_pos hI, if_pos ⟨by omega, hk⟩] at h
    exact h
  have HSE : Hid (sheetRE g ps = if allE ps ≠ 0 then allE ps else if (ps.length : Int) ≠ gridA g * gridD g then 291
      else if fitsB g ps = false then 291 else if rowsE (sheetRows g ps) ≠ 0 then rowsE (sheetRows g ps) else belowE ((sheetRows g ps).map besideP)) := by show _ = _; unfold sheetRE; rw [if_neg (by simp [hI])]
  obtain ⟨hB, hm⟩ := gridI_ok hI
  obtain ⟨ga0, ga1⟩ := hB.gA
  obtain ⟨gd0, gd1⟩ := hB.gD
  have p1 : 0 ≤ gridA g * gridD g := Int.mul_nonneg (by omega) (by omega)
  obtain ⟨W0, hW0⟩ : ∃ W0, W0 = (w.alloc (.cells #[.bool g.re.neg, .string g.re.n, .int .i64 g.re.e, .bool g.im.neg, .string g.im.n, .int .i64 g.im.e, .int .i64 g.exp, .int .i64 g.across, .int .i64 g.down, .int .i64 g.wide, .int .i64 g.high] 82)).alloc (.cells #[.int .i64 0, .int .i64 0, .slice none 0 0] 24) := ⟨_, rfl⟩
  have S0 := hide (rsheet_boxes g w W0 hW0)
  have HP := hide hp
  have HLD := hide hLd
  clear hI hg hp hB hLd
  go_enter Try.func41, Try.ntmps41
  go_wp2_with fail
  rw [← hW0]
  clear hW0
  refine (CC.out _).mono ?_
  rintro e w1 ⟨rfl, hk1⟩
  have HK1 : Hid (Kept W0 w1) := hk1
  have hnat : ∀ n : Nat, (n : Int) ≤ 1000000 → n ≤ 1000000 := fun n h => by omega
  clear hk1
  go_wp2_with fail
  go_loopg [9] L (fun gh ix wr => ∃ k : Nat, k + gh = L ∧ ix = .int .i64 k ∧ Hid (∀ p ∈ ps.take k, p.may = true) ∧ Kept W0 wr)
  case atStart => exact ⟨0, by omega, rfl, by simp [Hid], HK1.out⟩
  case round =>
    obtain ⟨k, hkg, rfl, HM, hkr⟩ := hrel
    have HKR := hide hkr
    clear hkr HK1
    cases gk with
    | succ gk =>
      have hlt : (k : Int) < (L : Int) := by omega
      have hltn : k < L := by omega
      obtain ⟨p, hpk⟩ : ∃ p, ps[k]? = some p := ⟨_, List.getElem?_eq_getElem (by have := HLD.out; omega)⟩
      obtain ⟨b, off, A', n, c', rfl, hbl, x0, x1, x2, hat⟩ := (HP.out.kept (S0.out wr HKR.out).1).at_ hpk
      have CM : Hid (Calls Try.prog 24 #[.agg #[.int .i64 p.a, .int .i64 p.d, .slice A' n c']] wr fun e w' => e = .returned (.bool (mayB p.a p.d n)) ∧ Kept wr w') := may_any p.a p.d A' n c' wr hat.a0 hat.a1 hat.d0 hat.d1 hat.max
      have HN : Hid (p.g.length = n) := hat.len
      have HPK := hide hpk
      clear hat hpk
      cases hmb : mayB p.a p.d n with
      | true =>
        rw [hmb] at CM
        go_wp2_with fail
        refine CM.out.mono ?_
        rintro e w2 ⟨rfl, hk2⟩
        have HK2 : Hid (Kept W0 w2) := HKR.out.trans' hk2
        have HM2 : Hid (∀ p ∈ ps.take (k + 1), p.may = true) := by
          intro p2 h2
          rw [take_next HPK.out] at h2
          rcases List.mem_append.1 h2 with h | h
          · exact HM.out p2 h
          · simp at h; subst h; rw [PicD.may, HN.out]; exact hmb
        clear hk2 hmb x0 x1 x2
        go_wp2_with fail
        go_roundg gk
        case measure => omega
        case rel => exact ⟨k + 1, by omega, by go_num, HM2, HK2.out⟩
      | false =>
        rw [hmb] at CM
        go_wp2_with fail
        refine CM.out.mono ?_
        rintro e w2 ⟨rfl, hk2⟩
        have HK2 : Hid (Kept W0 w2) := HKR.out.trans' hk2
        have HE2 : Hid (sheetRE g ps = 290) := by
          show _ = _
          have h := allE_at HPK.out (by rw [HN.out]; exact hmb)
          rw [HSE.out, if_pos (by simp [h]), h]
        clear hk2 hmb x0 x1 x2
        obtain ⟨KW, ⟨q0, q1, q2, q3, q4, q5, q6, q7, q8, q9, q10⟩, rb, hlt1⟩ := S0.out w2 HK2.out
        have p0 := rb.c0
        have p1 := rb.c1
        have p2 := rb.c2
        have p3 := rb.f0
        have p4 := rb.f1
        have p5 := rb.f2
        clear q0 q1 q2 q3 q4 q5 q6 q7 q8 q9 q10
        go_wp2_with fail
        have rs := rb.stored (.int .i64 0) (.int .i64 0) (.slice none 0 0)
        have c0 := rs.c0
        have c1 := rs.c1
        have c2 := rs.c2
        have hks : Kept w (World.store3 w2 (w.heap.size + 1) (.int .i64 0) (.int .i64 0) (.slice none 0 0)) := ((KW.setCell (Nat.le_succ _) _).setCell (Nat.le_succ _) _).setCell (Nat.le_succ _) _
        simp only [World.store3] at c0 c1 c2 hks
        exact bodyPost_ret (v := .tuple #[.agg #[.int .i64 0, .int .i64 0, .slice none 0 0], .int .i64 (290)]) (by simp [results, Try.results41, go_sem, c0, c1, c2]) rfl (by rw [HE2.out]; exact PutPost.err (by decide) hks)
    | zero =>
      have hge : ¬ (k : Int) < (L : Int) := by omega
      have hE : allE ps = 0 := by
        unfold allE
        rw [if_pos]
        rw [List.all_eq_true]
        intro p hp
        exact HM.out p (by rwa [List.take_of_length_le (by have := HLD.out; omega)])
      have HE := hide hE
      have HSE2 : Hid (sheetRE g ps = if (ps.length : Int) ≠ gridA g * gridD g then 291
          else if fitsB g ps = false then 291 else if rowsE (sheetRows g ps) ≠ 0 then rowsE (sheetRows g ps) else belowE ((sheetRows g ps).map besideP)) := by show _ = _; rw [HSE.out, if_neg (by simp [hE])]
      clear hE HM HSE hkg
      by_cases hL : (L : Int) = gridA g * gridD g
      · have hne : ((L : Int) != gridA g * gridD g) = false := by simp [hL]
        have HLI := hide hL
        have HSE3 : Hid (sheetRE g ps = if fitsB g ps = false then 291 else if rowsE (sheetRows g ps) ≠ 0 then rowsE (sheetRows g ps) else belowE ((sheetRows g ps).map besideP)) := by
          show _ = _
          rw [HSE2.out, if_neg (by rw [← HLD.out]; simp [hL])]
        clear hL HSE2
        go_wp2_with fail
        rename_i J9
        go_loopg [11] L (fun gh ix wr => ∃ k : Nat, k + gh = L ∧ ix = .int .i64 k ∧ Hid (∀ i, i < k → fitB g ps i = true) ∧ Kept W0 wr)
        case atStart => exact ⟨0, by omega, rfl, (fun i hi => absurd hi (by omega)), HKR.out⟩
        case round =>
          obtain ⟨k, hkg, rfl, HF, hkr⟩ := hrel
          have HKR2 := hide hkr
          clear hkr HKR
          cases gk with
          | succ gk =>
            have hlt : (k : Int) < (L : Int) := by omega
            have hltn : k < L := by omega
            obtain ⟨p, hpk⟩ : ∃ p, ps[k]? = some p := ⟨_, List.getElem?_eq_getElem (by have := HLD.out; omega)⟩
            have CK : Hid (∀ W, Calls Try.prog 58 #[.agg #[.bool g.re.neg, .string g.re.n, .int .i64 g.re.e, .bool g.im.neg, .string g.im.n, .int .i64 g.im.e, .int .i64 g.exp, .int .i64 g.across, .int .i64 g.down, .int .i64 g.wide, .int .i64 g.high], .int .i64 k] W fun e w' => e = .returned (.tuple #[.agg #[.int .i64 (rectX g k), .int .i64 (rectY g k), .int .i64 (rectW g k), .int .i64 (rectH g k)], .int .i64 0]) ∧ Kept W w') := fun W => CR.out W k (by have := HLI.out; omega)
            have HFB : Hid (fitB g ps k = (p.a == rectW g k && p.d == rectH g k)) := by show _ = _; simp [fitB, hpk]
            have HE3 : Hid (fitB g ps k = false → sheetRE g ps = 291) := by
              intro h
              have hff : fitsB g ps = false := by
                rw [← Bool.not_eq_true]
                intro h2
                have h3 := List.all_eq_true.1 h2 k (by have := HLD.out; simp; omega)
                rw [h] at h3
                cases h3
              rw [HSE3.out, if_pos hff]
            have HPK := hide hpk
            clear hpk
            generalize rectX g k = RX at *
            generalize rectY g k = RY at *
            generalize rectW g k = RW at *
            generalize rectH g k = RH at *
            obtain ⟨KW, ⟨q0, q1, q2, q3, q4, q5, q6, q7, q8, q9, q10⟩, rb, hlt1⟩ := S0.out wr HKR2.out
            have p0 := rb.c0
            have pq := rb.c1
            have p2 := rb.c2
            have p3 := rb.f0
            have p4 := rb.f1
            have p5 := rb.f2
            clear KW rb hlt1 p0 pq p2 p3 p4 p5
            go_wp2_with fail
            refine (CK.out _).mono ?_
            rintro e w2 ⟨rfl, hk2⟩
            have HK2 : Hid (Kept W0 w2) := HKR2.out.trans' hk2
            obtain ⟨X, hX⟩ : ∃ X, X = w2.alloc (.cells #[.int .i64 RX, .int .i64 RY, .int .i64 RW, .int .i64 RH] 66) := ⟨_, rfl⟩
            have HKX : Hid (Kept W0 X) := by rw [hX]; exact HK2.out.alloc HK2.out.size _
            have r2 : X.cell? ⟨w2.heap.size, 2, none⟩ = some (.int .i64 RW) := by rw [hX]; simp
            have r3 : X.cell? ⟨w2.heap.size, 3, none⟩ = some (.int .i64 RH) := by rw [hX]; simp
            clear hk2 q0 q1 q2 q3 q4 q5 q6 q7 q8 q9 q10
            go_upto_region 16 with fail
            rw [← hX]
            clear hX
            obtain ⟨b, off, A', n, c', rfl, hbl, x0, x1, x2, hat⟩ := (HP.out.kept (S0.out X HKX.out).1).at_ HPK.out
            clear hat
            by_cases ha : p.a = RW
            · by_cases hd : p.d = RH
              · have hn1 : (p.a != RW) = false := by simp [ha]
                have hn2 : (p.d != RH) = false := by simp [hd]
                have HF2 : Hid (∀ i, i < k + 1 → fitB g ps i = true) := fun i hi => by
                  by_cases h : i = k
                  · subst h; rw [HFB.out, ha, hd]; simp
                  · exact HF.out i (by omega)
                clear ha hd
                go_quiet (fail)
                go_wp2_with fail
                go_roundg gk
                case measure => omega
                case rel => exact ⟨k + 1, by omega, by go_num, HF2, drewN_below HKX.out _⟩
              · have hn1 : (p.a != RW) = false := by simp [ha]
                have hn2 : (p.d != RH) = true := by simp [hd]
                have HF2 : Hid (fitB g ps k = false) := by show _ = _; rw [HFB.out]; simp [hd]
                clear ha hd
                obtain ⟨KW, ⟨q0, q1, q2, q3, q4, q5, q6, q7, q8, q9, q10⟩, rb, hlt1⟩ := S0.out X HKX.out
                have p0 := rb.c0
                have p1 := rb.c1
                have p2 := rb.c2
                have p3 := rb.f0
                have p4 := rb.f1
                have p5 := rb.f2
                clear q0 q1 q2 q3 q4 q5 q6 q7 q8 q9 q10
                go_quiet (fail)
                go_wp2_with fail
                replace KW := drewN_below KW nq
                replace rb : PBox (X.drewN nq) (w.heap.size + 1) (.int .i64 0) (.int .i64 0) (.slice none 0 0) := ⟨rb.c0, rb.c1, rb.c2, rb.f0, rb.f1, rb.f2⟩
                have rs := rb.stored (.int .i64 0) (.int .i64 0) (.slice none 0 0)
                have c0 := rs.c0
                have c1 := rs.c1
                have c2 := rs.c2
                have hks : Kept w (World.store3 (X.drewN nq) (w.heap.size + 1) (.int .i64 0) (.int .i64 0) (.slice none 0 0)) := ((KW.setCell (Nat.le_succ _) _).setCell (Nat.le_succ _) _).setCell (Nat.le_succ _) _
                simp only [World.store3] at c0 c1 c2 hks
                exact bodyPost_ret (v := .tuple #[.agg #[.int .i64 0, .int .i64 0, .slice none 0 0], .int .i64 (291)]) (by simp [results, Try.results41, go_sem, c0, c1, c2]) rfl (by rw [(HE3.out HF2.out)]; exact PutPost.err (by decide) hks)
            · have hn1 : (p.a != RW) = true := by simp [ha]
              have HF2 : Hid (fitB g ps k = false) := by show _ = _; rw [HFB.out]; simp [ha]
              clear ha
              obtain ⟨KW, ⟨q0, q1, q2, q3, q4, q5, q6, q7, q8, q9, q10⟩, rb, hlt1⟩ := S0.out X HKX.out
              have p0 := rb.c0
              have p1 := rb.c1
              have p2 := rb.c2
              have p3 := rb.f0
              have p4 := rb.f1
              have p5 := rb.f2
              clear q0 q1 q2 q3 q4 q5 q6 q7 q8 q9 q10
              go_quiet (fail)
              go_wp2_with fail
              replace KW := drewN_below KW nq
              replace rb : PBox (X.drewN nq) (w.heap.size + 1) (.int .i64 0) (.int .i64 0) (.slice none 0 0) := ⟨rb.c0, rb.c1, rb.c2, rb.f0, rb.f1, rb.f2⟩
              have rs := rb.stored (.int .i64 0) (.int .i64 0) (.slice none 0 0)
              have c0 := rs.c0
              have c1 := rs.c1
              have c2 := rs.c2
              have hks : Kept w (World.store3 (X.drewN nq) (w.heap.size + 1) (.int .i64 0) (.int .i64 0) (.slice none 0 0)) := ((KW.setCell (Nat.le_succ _) _).setCell (Nat.le_succ _) _).setCell (Nat.le_succ _) _
              simp only [World.store3] at c0 c1 c2 hks
              exact bodyPost_ret (v := .tuple #[.agg #[.int .i64 0, .int .i64 0, .slice none 0 0], .int .i64 (291)]) (by simp [results, Try.results41, go_sem, c0, c1, c2]) rfl (by rw [(HE3.out HF2.out)]; exact PutPost.err (by decide) hks)
          | zero =>
            have hge : ¬ (k : Int) < (L : Int) := by omega
            have HFF : Hid (fitsB g ps = true) := by
              refine List.all_eq_true.2 fun i hi => ?_
              simp at hi
              exact HF.out i (by have := HLD.out; omega)
            have HSE4 : Hid (sheetRE g ps = if rowsE (sheetRows g ps) ≠ 0 then rowsE (sheetRows g ps) else belowE ((sheetRows g ps).map besideP)) := by
              show _ = _
              rw [HSE3.out, if_neg (by simp [HFF.out])]
            clear hkg HF
            obtain ⟨N, hN⟩ : ∃ N : Nat, (N : Int) = gridD g := ⟨(gridD g).toNat, Int.toNat_of_nonneg (by omega)⟩
            have HRL : Hid ((sheetRows g ps).length = N) := by show _ = _; simp [sheetRows]; omega
            obtain ⟨W2, hW2⟩ : ∃ W2, W2 = wr := ⟨_, rfl⟩
            rw [← hW2] at HKR2 ⊢
            clear hW2
            go_wp2_with fail
            rename_i J10
            go_loopg [10, 14] N (fun gh v ix wr => ∃ (k : Nat) (xs : List Value), k + gh = N ∧ ix = .int .i64 k ∧ GrowPics wr W2.heap.size v (((sheetRows g ps).take k).map besideP) xs ∧ Hid (∀ q ∈ (sheetRows g ps).take k, besideE q = 0) ∧ Kept W2 wr)
            case atStart => exact ⟨0, [], by omega, rfl, by simpa using GrowPics.nil _ _, by simp [Hid], Below.refl _ _⟩
            case round =>
              obtain ⟨k, xs, hkg, rfl, hgp, HZ, hkw⟩ := hrel
              cases gk with
              | zero =>
                have hge : ¬ (k : Int) < gridD g := by omega
                have hRL := HRL.out
                rw [List.take_of_length_le (by omega)] at hgp HZ
                have hRE : rowsE (sheetRows g ps) = 0 := rowsE_zero HZ.out
                have HSE5 : Hid (sheetRE g ps = belowE ((sheetRows g ps).map besideP)) := by show _ = _; rw [HSE4.out, if_neg (by simp [hRE])]
                obtain ⟨RS, hRS⟩ : ∃ RS, RS = (sheetRows g ps).map besideP := ⟨_, rfl⟩
                obtain ⟨M, hM⟩ : ∃ M, M = RS.length := ⟨_, rfl⟩
                have hMN : M ≤ 1000000 := by rw [hM, hRS]; simp; omega
                rw [← hRS] at hgp HSE5
                obtain ⟨AR, cR, hv, hcR, hpR⟩ := hgp.pics
                rw [← hM] at hv hcR
                subst hv
                have CBW : Hid (Calls Try.prog 32 #[.slice AR M cR] wr (PutPost wr (belowE RS) (belowP RS))) := by
                  show Calls _ _ _ _ _
                  rw [hM]; exact rbelow_any AR cR RS wr hpR (by rw [← hM]; exact hMN)
                have HRS := hide hRS
                clear hM hRS
                have HKW := hide hkw
                clear hgp hpR hRE
                go_wp2_with fail
                refine CBW.out.mono ?_
                intro e w6 hput
                by_cases hbe : belowE RS = 0
                · unfold PutPost at hput
                  rw [if_pos hbe] at hput
                  obtain ⟨vb, rfl, hob, hk6⟩ := hput
                  have HK6 : Hid (Kept W2 w6) := HKW.out.trans' hk6
                  obtain ⟨AB, cB, rfl, -, -, -, -⟩ := hob.form
                  have HOB := hide hob
                  clear hk6 hob
                  obtain ⟨KW, ⟨q0, q1, q2, q3, q4, q5, q6, q7, q8, q9, q10⟩, rb, hlt1⟩ := S0.out w6 (HKR2.out.trans' HK6.out)
                  have p0 := rb.c0
                  have p1 := rb.c1
                  have p2 := rb.c2
                  have p3 := rb.f0
                  have p4 := rb.f1
                  have p5 := rb.f2
                  clear q0 q1 q2 q3 q4 q5 q6 q7 q8 q9 q10
                  go_wp2_with fail
                  have rs := rb.stored (.int .i64 (belowP RS).a) (.int .i64 (belowP RS).d) (.slice AB (belowP RS).g.length cB)
                  have c0 := rs.c0
                  have c1 := rs.c1
                  have c2 := rs.c2
                  have hW2 : w.heap.size + 1 < W2.heap.size := (S0.out W2 HKR2.out).2.2.2
                  have hlr := HKW.out.size
                  have hown := (HOB.out.beside (b' := w.heap.size + 1) (fun k hk => by have := (HOB.out.lt k hk).1; omega) (.int .i64 (belowP RS).a) (.int .i64 (belowP RS).d) (.slice AB (belowP RS).g.length cB)).less (base' := w.heap.size) (by omega)
                  have hks : Kept w (World.store3 w6 (w.heap.size + 1) (.int .i64 (belowP RS).a) (.int .i64 (belowP RS).d) (.slice AB (belowP RS).g.length cB)) := ((KW.setCell (Nat.le_succ _) _).setCell (Nat.le_succ _) _).setCell (Nat.le_succ _) _
                  simp only [World.store3] at c0 c1 c2 hks hown
                  have hP : sheetP g ps = belowP RS := by unfold sheetP; rw [← HRS.out]
                  exact bodyPost_ret (v := .tuple #[.agg #[.int .i64 (belowP RS).a, .int .i64 (belowP RS).d, .slice AB (belowP RS).g.length cB], .int .i64 (belowE RS)]) (by simp [results, Try.results41, go_sem, c0, c1, c2, hbe]) rfl (by rw [HSE5.out, hP, hbe]; exact PutPost.ok hown hks)
                · unfold PutPost at hput
                  rw [if_neg hbe] at hput
                  obtain ⟨rfl, hk6⟩ := hput
                  have HK6 : Hid (Kept W2 w6) := HKW.out.trans' hk6
                  clear hk6
                  obtain ⟨KW, ⟨q0, q1, q2, q3, q4, q5, q6, q7, q8, q9, q10⟩, rb, hlt1⟩ := S0.out w6 (HKR2.out.trans' HK6.out)
                  have p0 := rb.c0
                  have p1 := rb.c1
                  have p2 := rb.c2
                  have p3 := rb.f0
                  have p4 := rb.f1
                  have p5 := rb.f2
                  clear q0 q1 q2 q3 q4 q5 q6 q7 q8 q9 q10
                  go_wp2_with fail
                  have rs := rb.stored (.int .i64 0) (.int .i64 0) (.slice none 0 0)
                  have c0 := rs.c0
                  have c1 := rs.c1
                  have c2 := rs.c2
                  have hks : Kept w (World.store3 w6 (w.heap.size + 1) (.int .i64 0) (.int .i64 0) (.slice none 0 0)) := ((KW.setCell (Nat.le_succ _) _).setCell (Nat.le_succ _) _).setCell (Nat.le_succ _) _
                  simp only [World.store3] at c0 c1 c2 hks
                  exact bodyPost_ret (v := .tuple #[.agg #[.int .i64 0, .int .i64 0, .slice none 0 0], .int .i64 (belowE RS)]) (by simp [results, Try.results41, go_sem, c0, c1, c2]) rfl (by rw [HSE5.out]; exact PutPost.err hbe hks)

              | succ gk =>
                have hlt : (k : Int) < gridD g := by omega
                have hLI := HLI.out
                have hcl : L ≤ c := hcL
                have p6 : 0 ≤ (k : Int) * gridA g := Int.mul_nonneg (by omega) (by omega)
                have p7 : ((k : Int) + 1) * gridA g ≤ L := by rw [hLI, Int.mul_comm (gridA g)]; exact Int.mul_le_mul_of_nonneg_right (by omega) (by omega)
                have p8 : (k : Int) * gridA g + gridA g = ((k : Int) + 1) * gridA g := by rw [Int.add_mul]; omega
                have p9 : (k : Int) * gridA g ≤ ((k : Int) + 1) * gridA g := by omega
                have p10 : ¬ c = ((k : Int) * gridA g).toNat := by omega
                have p11 : ((k : Int) + 1) * gridA g ≤ (c : Int) := by omega
                have HLK := hide (show gridA g = ((k : Int) + 1) * gridA g - (k : Int) * gridA g by omega)
                have HKG := hide hkg
                have HGP := hide hgp
                have HKW := hide hkw
                clear p8 hLI hkg hgp hkw
                obtain ⟨q, hq⟩ : ∃ q, (sheetRows g ps)[k]? = some q := ⟨_, List.getElem?_eq_getElem (by have := HRL.out; omega)⟩
                have HLO := hide (show ((k : Int) * gridA g).toNat = k * (gridA g).toNat by rw [Int.toNat_mul (by omega) (by omega)]; rfl)
                have HQE : Hid (q = (ps.drop (k * (gridA g).toNat)).take (gridA g).toNat) := by
                  show _ = _
                  unfold sheetRows at hq
                  rw [List.getElem?_map, List.getElem?_range (by have := HKG.out; omega)] at hq
                  simpa using hq.symm
                have HQL : Hid (q.length = (((k : Int) + 1) * gridA g).toNat - ((k : Int) * gridA g).toNat) := by
                  show _ = _
                  have h1 := HLO.out
                  have h2 := HLD.out
                  have h3 := HLK.out
                  rw [HQE.out, List.length_take, List.length_drop]
                  omega
                have CB : Hid (Calls Try.prog 30 #[.slice (Option.map (fun x => x.add (((k : Int) * gridA g).toNat * 3)) A) ((((k : Int) + 1) * gridA g).toNat - ((k : Int) * gridA g).toNat) (c - ((k : Int) * gridA g).toNat)] wr (PutPost wr (besideE q) (besideP q))) := by
                  show Calls _ _ _ _ _
                  have hqp : Pics wr (Option.map (fun x => x.add (((k : Int) * gridA g).toNat * 3)) A) q := by
                    rw [HLO.out, HQE.out]
                    exact ((HP.out.kept (S0.out wr (HKR2.out.trans' HKW.out)).1).mid _ _)
                  rw [← HQL.out]
                  exact rbeside_any _ _ q wr hqp (by have := HQL.out; omega)
                have HQ := hide hq
                clear hq
                go_wp2_with fail
                refine CB.out.mono ?_
                intro e w6 hput
                by_cases hbe : besideE q = 0
                · unfold PutPost at hput
                  rw [if_pos hbe] at hput
                  obtain ⟨vb, rfl, hob, hk6⟩ := hput
                  have HK6 : Hid (Kept W2 w6) := HKW.out.trans' hk6
                  obtain ⟨AB, cB, rfl, hcb, hcm, hrow, hblk, -⟩ := hob.form
                  have hsz := sizeB_bounds (beside_size hbe)
                  have HPA : Hid (PicAt w6 (besideP q) AB (besideP q).g.length cB) := ⟨rfl, hcb, by have := beside_len q hbe; omega, hrow, by omega, by omega, by omega, by omega⟩
                  have HBK : Hid (∀ b off, AB = some ⟨b, off, none⟩ → wr.heap.size ≤ b ∧ b < w6.heap.size) := fun b off e => by have := hblk _ e; exact ⟨this.2.1, this.2.2⟩
                  have HGP6 := hide (HGP.out.kept hk6)
                  obtain ⟨xa, hxa⟩ : ∃ xa, xa = (besideP q).a := ⟨_, rfl⟩
                  obtain ⟨xd, hxd⟩ : ∃ xd, xd = (besideP q).d := ⟨_, rfl⟩
                  obtain ⟨xn, hxn⟩ : ∃ xn, xn = (besideP q).g.length := ⟨_, rfl⟩
                  rw [← hxa, ← hxd, ← hxn]
                  have HXA := hide hxa
                  have HXD := hide hxd
                  have HXN := hide hxn
                  have HBE := hide hbe
                  have hwr6 := hk6.size
                  clear hk6 hob hrow hblk hcb hcm hsz hxa hxd hxn hbe
                  obtain ⟨i0, hi, hi0, hi1, hi2⟩ := info_parts info_pic
                  have HRK := hide (show (((sheetRows g ps).take k).map besideP).length = k by simp; have := HRL.out; have := HKG.out; omega)
                  have HOWN : Hid (Own w6 W2.heap.size 3 u10 k xs) := by
                    have h9 := HGP6.out.own
                    rwa [HRK.out] at h9
                  have hkN : k ≤ 1000000 := by omega
                  have HVB : Hid (∀ k, u10.ownBlock = some k → k < wr.heap.size) := fun k hk => (HGP.out.own.lt k hk).2
                  go_wp2_with (at_builtin; refine wpList_append_row _ rfl _ _ 58 rfl W2.heap.size 24 i0 (.agg #[.int .i64 0, .int .i64 0, .slice none 0 0]) 3 40 Try.underlying58 hi hi0 hi1 hi2 rfl (by decide) _ k xs rfl ((HOWN.out.alloc _).alloc _) (some ⟨w6.heap.size + 1, 0, none⟩) 1 1 [.int .i64 xa, .int .i64 xd, .slice AB xn cB] rfl rfl (Row.new_at _ _ _ _ _ _ rfl (by simp)) (fun u hu => by simp at hu; rcases hu with rfl | rfl | rfl <;> rfl) ?_ ?_ ?_ ?_)
                  · unfold maxLen; omega
                  · omega
                  · have := HK6.out.size; simp; omega
                  intro v2 w7 hown2 hg2 hat2
                  have hk7 : Kept W2 w7 := ((HK6.out.alloc HK6.out.size _).alloc (by have := HK6.out.size; simp; omega) _).grown hg2 (by have := HK6.out.size; simp; omega) (fun k hk => (HOWN.out.lt k hk).1)
                  have hgp7 : GrowPics w7 W2.heap.size v2 (((sheetRows g ps).take (k + 1)).map besideP) (xs ++ picV (besideP q) AB xn cB) := by
                    have hx := HXN.out
                    rw [List.take_add_one, HQ.out, List.map_append]
                    have ka : ∀ X : World, ∀ o, Kept X (X.alloc o) := fun X o => (Below.refl _ X).alloc (Nat.le_refl _) o
                    refine GrowPics.snoc ((HGP6.out.kept (ka _ _)).kept (ka _ _)) (((hx ▸ HPA.out : PicAt w6 (besideP q) AB xn cB).kept (ka _ _)).kept (ka _ _)) ?_ ?_ hg2 (by simpa using hat2)
                    · intro b off e
                      have h1 := HBK.out b off e
                      refine ⟨by simp; omega, fun e2 => ?_⟩
                      have h2 := HVB.out b e2.symm
                      omega
                    · rw [HRK.out, picV, ← HXA.out, ← HXD.out]
                      exact hown2
                  have HGP7 := hide hgp7
                  have HK7 := hide hk7
                  have HZ7 : Hid (∀ q ∈ (sheetRows g ps).take (k + 1), besideE q = 0) := by
                    intro q2 hq2
                    rw [List.take_add_one, HQ.out] at hq2
                    rcases List.mem_append.1 hq2 with h | h
                    · exact HZ.out q2 h
                    · simp at h; subst h; exact HBE.out
                  clear hown2 hg2 hat2 hk7 hgp7 HGP HGP6 HOWN HVB HPA HBK
                  go_wp2_with fail
                  go_roundg gk
                  case measure => omega
                  case rel => exact ⟨k + 1, _, by have := HKG.out; omega, by go_num, HGP7.out, HZ7, HK7.out⟩
                · unfold PutPost at hput
                  rw [if_neg hbe] at hput
                  obtain ⟨rfl, hk6⟩ := hput
                  have HK6 : Hid (Kept W2 w6) := HKW.out.trans' hk6
                  have HSE5 : Hid (sheetRE g ps = besideE q) := by
                    show _ = _
                    have h1 : rowsE (sheetRows g ps) = besideE q := rowsE_at HZ.out HQ.out hbe
                    rw [HSE4.out, h1, if_pos hbe]
                  have hbn : (besideE q != 0) = true := by simp [hbe]
                  have HBE := hide hbe
                  obtain ⟨X, hX⟩ : ∃ X, X = w6.alloc (.cells #[.int .i64 0, .int .i64 0, .slice none 0 0] 24) := ⟨_, rfl⟩
                  have HKX : Hid (Kept W2 X) := by rw [hX]; exact HK6.out.alloc HK6.out.size _
                  clear hk6 hbe
                  go_upto_region 23 with fail
                  rw [← hX]
                  clear hX
                  obtain ⟨KW, ⟨q0, q1, q2, q3, q4, q5, q6, q7, q8, q9, q10⟩, rb, hlt1⟩ := S0.out X (HKR2.out.trans' HKX.out)
                  have p0 := rb.c0
                  have p1 := rb.c1
                  have p2 := rb.c2
                  have p3 := rb.f0
                  have p4 := rb.f1
                  have p5 := rb.f2
                  clear q0 q1 q2 q3 q4 q5 q6 q7 q8 q9 q10
                  go_wp2_with fail
                  have rs := rb.stored (.int .i64 0) (.int .i64 0) (.slice none 0 0)
                  have c0 := rs.c0
                  have c1 := rs.c1
                  have c2 := rs.c2
                  have hks : Kept w (World.store3 X (w.heap.size + 1) (.int .i64 0) (.int .i64 0) (.slice none 0 0)) := ((KW.setCell (Nat.le_succ _) _).setCell (Nat.le_succ _) _).setCell (Nat.le_succ _) _
                  simp only [World.store3] at c0 c1 c2 hks
                  exact bodyPost_ret (v := .tuple #[.agg #[.int .i64 0, .int .i64 0, .slice none 0 0], .int .i64 (besideE q)]) (by simp [results, Try.results41, go_sem, c0, c1, c2]) rfl (by rw [HSE5.out]; exact PutPost.err HBE.out hks)
      · have hne : ((L : Int) != gridA g * gridD g) = true := by simp [hL]
        have HE2 : Hid (sheetRE g ps = 291) := by
          show _ = _
          rw [HSE2.out, if_pos (by rw [← HLD.out]; exact hL)]
        clear hL
        obtain ⟨KW, ⟨q0, q1, q2, q3, q4, q5, q6, q7, q8, q9, q10⟩, rb, hlt1⟩ := S0.out wr HKR.out
        have p0 := rb.c0
        have p1 := rb.c1
        have p2 := rb.c2
        have p3 := rb.f0
        have p4 := rb.f1
        have p5 := rb.f2
        clear q0 q1 q2 q3 q4 q5 q6 q7 q8 q9 q10
        go_wp2_with fail
        have rs := rb.stored (.int .i64 0) (.int .i64 0) (.slice none 0 0)
        have c0 := rs.c0
        have c1 := rs.c1
        have c2 := rs.c2
        have hks : Kept w (World.store3 wr (w.heap.size + 1) (.int .i64 0) (.int .i64 0) (.slice none 0 0)) := ((KW.setCell (Nat.le_succ _) _).setCell (Nat.le_succ _) _).setCell (Nat.le_succ _) _
        simp only [World.store3] at c0 c1 c2 hks
        exact bodyPost_ret (v := .tuple #[.agg #[.int .i64 0, .int .i64 0, .slice none 0 0], .int .i64 (291)]) (by simp [results, Try.results41, go_sem, c0, c1, c2]) rfl (by rw [HE2.out]; exact PutPost.err (by decide) hks)
end Go.Proofs.Ytbhgcbgaadnfpaa
