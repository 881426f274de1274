/- Texts of one claim laid together: TreN, TreO, DisP, GaZ, TreQ, TreR, TreS, TreT, RfM, RfA, RfB. -/
import Derived.Test.YtfdnledkcongaaaGreatDoorQ12
set_option linter.all false
namespace Go.Proofs.YtfdnledkcongaaaGreatDoor
open Go.RowKit Go.Proofs.Tryz
section
set_option maxHeartbeats 6400000
set_option maxRecDepth 100000
theorem qkb {w : World} {base p : Nat} {v : Value} {u : RuD} {S : StD} (g : GsD) (hM : TrM w base p v u S) (hS : GoodS S) (h1 : g.re.ok) (h2 : g.im.ok) (hg : gsB g = false) :
  Calls prog 33 #[.pointer (some ⟨p, 0, none⟩), .agg #[.bool g.re.neg, .string g.re.n, .int .i64 g.re.e, .bool g.im.neg, .string g.im.n, .int .i64 g.im.e]] w fun en w' => en = .returned (.tuple #[.int .i64 0, .int .i64 2]) ∧ Kept w w' := by
 have NN := qh (fun W hk => qb7 (w := W) (hM.kept hk) hS)
 have CK := qh (fun W => qel g.re g.im W h1 h2)
 rw [show qeR g.re g.im = 2 by unfold qeR; unfold gsB at hg; rw [hg]; rfl] at CK
 obtain ⟨⟨r0, r1, r2⟩, ⟨i0, i1, i2⟩⟩ := g
 simp only at CK ⊢
 clear hM hS h1 h2 hg
 go_enter func33, ntmps33
 go_upto_region 1 with fail
 obtain ⟨b, w1, hw, hb, B0, K1, HB⟩ := qa4 w (LC1 r0 r1 r2 i0 i1 i2) 28
 rw [← hw, ← hb]; clear hw hb
 obtain ⟨c0, c1, c2, c3, c4, c5⟩ := B0.out.c6
 go_step3
 go_wp2_with fail
 refine (NN.out _ K1.out).mono ?_
 rintro e w2 ⟨rfl, h1⟩
 replace h1 := h1.symm
 subst h1
 go_wp2_with fail
 refine (CK.out _).mono ?_
 rintro e w3 ⟨rfl, hk3⟩
 go_wp2_with fail
 rw [Exit.noGoto_ret]
 exact bodyPost_ret (v := .tuple #[.int .i64 0, .int .i64 2]) (by simp [results, results33, go_sem]) rfl ⟨rfl, K1.out.trans' hk3⟩
theorem qeA (o : Option Bool) : ∃ (b : Bool) (e : Int), ql o = .tuple #[.bool b, .int .i64 e] ∧ ((o = none ∧ e = 4) ∨ (o = some b ∧ e = 0)) := by
 cases o with
 | none => exact ⟨false, 4, rfl, .inl ⟨rfl, rfl⟩⟩
 | some b => exact ⟨b, 0, rfl, .inr ⟨rfl, rfl⟩⟩
theorem qj4 {w : World} {base p : Nat} {v : Value} {u : RuD} {S : StD} (g : GsD) (hM : TrM w base p v u S) (hS : GoodS S) (hT : T32 w) (hg : gsB g = true) :
  Calls prog 33 #[.pointer (some ⟨p, 0, none⟩), .agg #[.bool g.re.neg, .string g.re.n, .int .i64 g.re.e, .bool g.im.neg, .string g.im.n, .int .i64 g.im.e]] w fun en w' => en = .returned (.tuple #[.int .i64 ((findD S.L g).1 : Nat), .int .i64 (findD S.L g).2]) ∧ Kept w w' := by
 have NN := qh (fun W hk => qb7 (w := W) (hM.kept hk) hS)
 have CK := qh (fun W => qcs g hg W)
 have HOL := qh (fun (s : SqD) (hs : sqB s = true) W (hk : Kept w W) => qlv s g W hs hg (hT.kept hk))
 obtain ⟨gt, ot, ct, hv, -, hgt, -, hcell, -⟩ := hM.form hS.pos
 have HBX := qh hM.box
 rw [hv] at HBX
 have HP := qh hM.box.lt
 obtain ⟨n0, hn0⟩ : ∃ n, S.L[0]? = some n := ⟨_, List.getElem?_eq_getElem hS.pos⟩
 have hE : findD S.L g = (match qcg n0.sq g with | none => (0, 4) | some false => (0, 271) | some true => qez S.L g S.L.length 0) := by
  unfold findD; rw [if_pos hg, hn0]; rfl
 rw [hE]
 have ho0 := (hS.nd 0 n0 hn0).sq
 have hnl := hcell 0 n0
 obtain ⟨LN, hLN⟩ : ∃ LN, LN = S.L.length := ⟨_, rfl⟩
 have HN := qh hLN
 have hpos : (0 : Int) < (LN : Int) := by have := hS.pos; omega
 have hposN : 0 < LN := by omega
 rw [← hLN] at HBX ⊢
 have HCL : Hid (∀ W, Kept w W → ∀ (k : Nat) (n : NdD) (i : Nat) (y : Value), S.L[k]? = some n → (ndV n)[i]? = some y → W.cell? ⟨gt, ot + k * 13 + i, none⟩ = some y) := qh fun W hk k n i y hn hy => by
  rw [Nat.add_assoc]; exact (hk.cells _ _ hgt).trans (hcell k n i y hn hy)
 have HS := qh hS
 have HN0 := qh hn0
 have HGS := qh hg
 obtain ⟨⟨r0, r1, r2⟩, ⟨i0, i1, i2⟩⟩ := g
 obtain ⟨⟨⟨a0, a1, a2⟩, ⟨a3, a4, a5⟩, a6⟩, nt, nd, nk⟩ := n0
 have HOL0 := qh (HOL.out ⟨⟨a0, a1, a2⟩, ⟨a3, a4, a5⟩, a6⟩ ho0)
 simp only at CK HOL HOL0 ⊢
 clear hM hS hT hg hv hcell hE ho0 hnl hLN hn0
 generalize qcg ⟨⟨a0, a1, a2⟩, ⟨a3, a4, a5⟩, a6⟩ ⟨⟨r0, r1, r2⟩, ⟨i0, i1, i2⟩⟩ = H0 at *
 obtain ⟨GG, hGG⟩ : ∃ GG : GsD, GG = ⟨⟨r0, r1, r2⟩, ⟨i0, i1, i2⟩⟩ := ⟨_, rfl⟩
 rw [← hGG] at HOL HGS ⊢
 obtain ⟨E1, E2, hE⟩ : ∃ E1 E2, qez S.L GG LN 0 = (E1, E2) := ⟨_, _, rfl⟩
 rw [hE]
 have HE := qh hE
 clear hE hGG
 go_enter func33, ntmps33
 go_upto_region 1 with fail
 obtain ⟨b, w1, hw, hb, B0, K1, HB⟩ := qa4 w (LC1 r0 r1 r2 i0 i1 i2) 28
 rw [← hw, ← hb]; clear hw hb
 obtain ⟨c0, c1, c2, c3, c4, c5⟩ := B0.out.c6
 go_step3
 go_wp2_with fail
 refine (NN.out _ K1.out).mono ?_
 rintro e w2 ⟨rfl, h1⟩
 replace h1 := h1.symm
 subst h1
 go_upto_region 5 with (go_at_call 18; (with_reducible refine (CK.out _).mono ?_); rintro e w3 ⟨rfl, hk3⟩)
 have K3 := qh hk3
 have SK : Hid (∀ W, Kept w1 W → (W.cell? ⟨b, 0, none⟩ = some (.bool r0) ∧ W.cell? ⟨b, 1, none⟩ = some (.string r1) ∧ W.cell? ⟨b, 2, none⟩ = some (.int .i64 r2) ∧ W.cell? ⟨b, 3, none⟩ = some (.bool i0) ∧ W.cell? ⟨b, 4, none⟩ = some (.string i1) ∧ W.cell? ⟨b, 5, none⟩ = some (.int .i64 i2)) ∧ W.cell? ⟨p, 1, none⟩ = some (.slice (some ⟨gt, ot, none⟩) LN ct)) := qh fun W h => ⟨(B0.out.kept h).c6, (HBX.out.kept (K1.out.trans' h)).c 1 rfl⟩
 have SN : Hid (∀ W, Kept w1 W → W.cell? ⟨gt, ot, none⟩ = some (.bool a0) ∧ W.cell? ⟨gt, ot + 1, none⟩ = some (.string a1) ∧ W.cell? ⟨gt, ot + 2, none⟩ = some (.int .i64 a2) ∧ W.cell? ⟨gt, ot + 3, none⟩ = some (.bool a3) ∧ W.cell? ⟨gt, ot + 4, none⟩ = some (.string a4) ∧ W.cell? ⟨gt, ot + 5, none⟩ = some (.int .i64 a5) ∧ W.cell? ⟨gt, ot + 6, none⟩ = some (.int .i64 a6)) := qh fun W h => by
  have f := fun i y hy => HCL.out W (K1.out.trans' h) 0 _ i y HN0.out hy
  simp only [Nat.zero_mul, Nat.add_zero] at f
  exact ⟨f 0 _ rfl, f 1 _ rfl, f 2 _ rfl, f 3 _ rfl, f 4 _ rfl, f 5 _ rfl, f 6 _ rfl⟩
 clear c0 c1 c2 c3 c4 c5 hk3
 obtain ⟨hb, he, hH, hR⟩ := qeA H0
 rw [hH] at HOL0
 have HR := qh hR
 clear hH hR
 refine wp_region_quiet (C := (KB w1)) (by kernel_rfl) (by kernel_rfl) ?_ ?_
 ·exact ⟨K3.out.trans' (Below.refl _ w3).drew⟩
 dsimp only [List.take]
 refine wQ (some 19) ?_ fun wr hw => (by (obtain ⟨⟨c0, c1, c2, c3, c4, c5⟩, p1⟩ := SK.out _ hw.k; obtain ⟨n0, n1, n2, n3, n4, n5, n6⟩ := SN.out _ hw.k); go_simp; (try with_reducible rfl))
 refine wQ (some 20) ?_ fun wr hw => (by (obtain ⟨⟨c0, c1, c2, c3, c4, c5⟩, p1⟩ := SK.out _ hw.k; obtain ⟨n0, n1, n2, n3, n4, n5, n6⟩ := SN.out _ hw.k); go_simp; (try with_reducible rfl))
 refine wQ (some 21) ?_ fun wr hw => (by (obtain ⟨⟨c0, c1, c2, c3, c4, c5⟩, p1⟩ := SK.out _ hw.k; obtain ⟨n0, n1, n2, n3, n4, n5, n6⟩ := SN.out _ hw.k); go_simp; (try with_reducible rfl))
 refine wQ (some 22) ?_ fun wr hw => (by (obtain ⟨⟨c0, c1, c2, c3, c4, c5⟩, p1⟩ := SK.out _ hw.k; obtain ⟨n0, n1, n2, n3, n4, n5, n6⟩ := SN.out _ hw.k); go_simp; (try with_reducible rfl))
 refine wQ (some 23) ?_ fun wr hw => (by (obtain ⟨⟨c0, c1, c2, c3, c4, c5⟩, p1⟩ := SK.out _ hw.k; obtain ⟨n0, n1, n2, n3, n4, n5, n6⟩ := SN.out _ hw.k); go_simp; (try with_reducible rfl))
 refine wQ (some 24) ?_ fun wr hw => (by (obtain ⟨⟨c0, c1, c2, c3, c4, c5⟩, p1⟩ := SK.out _ hw.k; obtain ⟨n0, n1, n2, n3, n4, n5, n6⟩ := SN.out _ hw.k); go_simp; (try with_reducible rfl))
 refine wQ (some 25) ?_ fun wr hw => (by (obtain ⟨⟨c0, c1, c2, c3, c4, c5⟩, p1⟩ := SK.out _ hw.k; obtain ⟨n0, n1, n2, n3, n4, n5, n6⟩ := SN.out _ hw.k); go_simp; (try with_reducible rfl))
 refine wQ (some 26) ?_ fun wr hw => (by (obtain ⟨⟨c0, c1, c2, c3, c4, c5⟩, p1⟩ := SK.out _ hw.k; obtain ⟨n0, n1, n2, n3, n4, n5, n6⟩ := SN.out _ hw.k); go_simp; (try with_reducible rfl))
 refine qbK (v := ?_) (f := ?_) (args := ?_) (some 27) rfl (by kernel_rfl) (fun wr hw => ?_) (fun wr hw => ?_) ?_
 rotate_left 3
 ·(obtain ⟨⟨c0, c1, c2, c3, c4, c5⟩, p1⟩ := SK.out _ hw.k; obtain ⟨n0, n1, n2, n3, n4, n5, n6⟩ := SN.out _ hw.k); go_simp; refine ⟨?_, ?_⟩ <;> with_reducible rfl
 ·refine (HOL0.out wr (K1.out.trans' hw.k)).mono ?_; rintro e w' ⟨rfl, hk⟩; refine ⟨?_, hw.on hk⟩; with_reducible rfl
 try simp only [Act.put, tdy]
 refine wQ (some 18) ?_ fun wr hw => (by (obtain ⟨⟨c0, c1, c2, c3, c4, c5⟩, p1⟩ := SK.out _ hw.k; obtain ⟨n0, n1, n2, n3, n4, n5, n6⟩ := SN.out _ hw.k); go_simp; (try with_reducible rfl))
 refine wQ (some 28) ?_ fun wr hw => (by (obtain ⟨⟨c0, c1, c2, c3, c4, c5⟩, p1⟩ := SK.out _ hw.k; obtain ⟨n0, n1, n2, n3, n4, n5, n6⟩ := SN.out _ hw.k); go_simp; (try with_reducible rfl))
 refine wQ (some 29) ?_ fun wr hw => (by (obtain ⟨⟨c0, c1, c2, c3, c4, c5⟩, p1⟩ := SK.out _ hw.k; obtain ⟨n0, n1, n2, n3, n4, n5, n6⟩ := SN.out _ hw.k); go_simp; (try with_reducible rfl))
 refine wQ (some 6) ?_ fun wr hw => (by (obtain ⟨⟨c0, c1, c2, c3, c4, c5⟩, p1⟩ := SK.out _ hw.k; obtain ⟨n0, n1, n2, n3, n4, n5, n6⟩ := SN.out _ hw.k); go_simp; (try with_reducible rfl))
 refine wQ (some 7) ?_ fun wr hw => (by (obtain ⟨⟨c0, c1, c2, c3, c4, c5⟩, p1⟩ := SK.out _ hw.k; obtain ⟨n0, n1, n2, n3, n4, n5, n6⟩ := SN.out _ hw.k); go_simp; (try with_reducible rfl))
 refine wpQuiet_nil ?_
 intro wq hq
 have KQ := qh hq.k
 clear hq K3 HOL0
 have HOLN := qh HOL.out
 clear HOL
 rcases HR.out with ⟨rfl, rfl⟩ | ⟨rfl, rfl⟩
 ·clear HR
  go_wp2_with fail
  try rw [Exit.noGoto_ret]
  exact bodyPost_ret (v := .tuple #[.int .i64 0, .int .i64 4]) (by simp [results, results33, go_sem]) rfl ⟨rfl, K1.out.trans' KQ.out⟩
 clear HR
 cases hb with
 | false =>
  go_wp2_with fail
  try rw [Exit.noGoto_ret]
  exact bodyPost_ret (v := .tuple #[.int .i64 0, .int .i64 271]) (by simp [results, results33, go_sem]) rfl ⟨rfl, K1.out.trans' KQ.out⟩
 | true =>
  go_wp2_with fail
  go_step3
  go_wp2_with fail
  go_loopg [8] LN (fun gh v8 wr => ∃ at_ : Nat, v8 = .int .i64 (at_ : Int) ∧ at_ < LN ∧ LN ≤ at_ + gh ∧ qez S.L GG gh at_ = (E1, E2) ∧ Kept w1 wr)
  case atStart => exact ⟨0, rfl, hposN, by omega, HE.out, KQ.out⟩
  case round =>
   clear HE KQ
   obtain ⟨at_, rfl, hlt, hfu, hD, hk⟩ := hrel
   have HK := qh hk
   have HD := qh hD
   have HFU := qh hfu
   clear hk hD hfu
   cases gk with
   | zero => have := HFU.out; omega
   | succ gj =>
    obtain ⟨n, hn⟩ : ∃ n, S.L[at_]? = some n := ⟨_, List.getElem?_eq_getElem (by have := HN.out; omega)⟩
    have hltI : (at_ : Int) < (LN : Int) := by omega
    have hat0 : (0 : Int) ≤ (at_ : Int) := by omega
    have hE2 := HD.out
    unfold qez at hE2
    rw [hn] at hE2
    simp only at hE2
    have HE2 := qh hE2
    have HC := qh (fun i y hy => HCL.out wr (K1.out.trans' HK.out) at_ n i y hn hy)
    have p1 := (HBX.out.kept (K1.out.trans' HK.out)).c 1 rfl
    have HPB := qh (qbw HS.out hn)
    have HKO := qh (fun p q r s h => HS.out.kids at_ n p q r s hn h)
    clear hE2 hn HD
    go_upto_region 11 with fail
    refine wp_region_list ?_
    refine wpList_plain rfl fun K hK => ?_
    go_step
    refine hK _ _ ?_
    clear hK K
    refine wpList_plain rfl fun K hK => ?_
    go_step
    refine hK _ _ ?_
    clear hK K
    refine wpList_plain rfl fun K hK => ?_
    go_step
    refine hK _ _ ?_
    clear hK K
    refine wpList_plain rfl fun K hK => ?_
    go_step
    refine hK _ _ ?_
    clear hK K
    refine wpList_plain rfl fun K hK => ?_
    go_step
    refine hK _ _ ?_
    clear hK K
    refine wpList_plain rfl fun K hK => ?_
    go_step
    refine hK _ _ ?_
    clear hK K
    refine wpList_plain rfl fun K hK => qav (vs := ndV n) (g := gt) (off := ot + at_ * 13) (n := 13) _ rfl rfl HC.out rfl underlying91 rfl (by kernel_rfl) (hK _ _ ?_)
    clear hK K
    refine wpList_plain rfl fun K hK => ?_
    go_step
    (with_reducible refine (qco n wr).mono ?_)
    rintro e w4 ⟨rfl, hk4⟩
    refine hK _ _ ?_
    clear hK K
    have HK4 := qh (HK.out.trans' hk4)
    have HC4 := qh (fun i y hy => (hk4.cells gt (ot + at_ * 13 + i) (by have := (K1.out.trans' HK.out).size; omega)).trans (HC.out i y hy))
    have p4 := (HBX.out.kept (K1.out.trans' HK4.out)).c 1 rfl
    clear hk4 HC HK p1
    cases hks : n.kids with
    | none =>
     have hE3 := HE2.out
     rw [hks] at hE3
     simp only at hE3
     injection hE3 with h1 h2
     subst h1; subst h2
     have hpb := HPB.out
     rw [hks] at hpb
     rw [hpb]
     clear HE2 hpb HPB hks HKO
     go_wp2_with fail
     try rw [Exit.noGoto_ret]
     exact bodyPost_ret (v := .tuple #[.int .i64 (at_ : Int), .int .i64 0]) (by simp [results, results33, go_sem]) rfl ⟨rfl, K1.out.trans' HK4.out⟩
    | some x =>
     obtain ⟨k0, k1, k2, k3⟩ := x
     have hE3 := HE2.out
     rw [hks] at hE3
     simp only at hE3
     have hpb := HPB.out
     rw [hks] at hpb
     rw [hpb]
     have hkk := HKO.out k0 k1 k2 k3 hks
     have hkid : n.kid = (k0, k1, k2, k3) := by unfold NdD.kid; rw [hks]; rfl
     have HC9 := qh (fun i y (hy : ([.int .i64 (k0 : Int), .int .i64 (k1 : Int), .int .i64 (k2 : Int), .int .i64 (k3 : Int)] : List Value)[i]? = some y) => show w4.cell? ⟨gt, ot + at_ * 13 + 9 + i, none⟩ = some y by rw [Nat.add_assoc]; exact HC4.out (9 + i) y (by unfold ndV; rw [hkid]; rw [Nat.add_comm]; exact hy))
     have HIX : Hid (∀ j : Nat, j < 4 → ∃ k : Nat, at_ < k ∧ k < LN ∧ [k0, k1, k2, k3][j]? = some k ∧ ∀ W, (Instr.index 89 (.agg #[.int .i64 (k0 : Int), .int .i64 (k1 : Int), .int .i64 (k2 : Int), .int .i64 (k3 : Int)]) (.int .i64 (j : Int))).run prog W = .ok (.int .i64 (k : Int)) W) := by
      refine qh fun j hj => ?_
      have hl := HN.out
      rcases (show j = 0 ∨ j = 1 ∨ j = 2 ∨ j = 3 by omega) with rfl | rfl | rfl | rfl
      ·exact ⟨k0, hkk.1.1, by omega, rfl, fun W => by kernel_rfl⟩
      ·exact ⟨k1, hkk.2.1.1, by omega, rfl, fun W => by kernel_rfl⟩
      ·exact ⟨k2, hkk.2.2.1.1, by omega, rfl, fun W => by kernel_rfl⟩
      ·exact ⟨k3, hkk.2.2.2.1, by omega, rfl, fun W => by kernel_rfl⟩
     have HE3 := qh hE3
     clear hE3 hpb HPB HE2 HKO hkk hkid hks HC4
     go_upto_region 12 with fail
     refine wp_region_list ?_
     refine wpList_plain rfl fun K hK => ?_
     go_step
     refine hK _ _ ?_
     clear hK K
     refine wpList_plain rfl fun K hK => ?_
     go_step
     refine hK _ _ ?_
     clear hK K
     refine wpList_plain rfl fun K hK => ?_
     go_step
     refine hK _ _ ?_
     clear hK K
     refine wpList_plain rfl fun K hK => ?_
     go_step
     refine hK _ _ ?_
     clear hK K
     refine wpList_plain rfl fun K hK => ?_
     go_step
     refine hK _ _ ?_
     clear hK K
     refine wpList_plain rfl fun K hK => ?_
     go_step
     refine hK _ _ ?_
     clear hK K
     refine wpList_plain rfl fun K hK => ?_
     go_step
     refine hK _ _ ?_
     clear hK K
     refine wpList_plain rfl fun K hK => qav (vs := [.int .i64 (k0 : Int), .int .i64 (k1 : Int), .int .i64 (k2 : Int), .int .i64 (k3 : Int)]) (g := gt) (off := ot + at_ * 13 + 9) (n := 4) _ rfl rfl HC9.out rfl underlying89 rfl (by kernel_rfl) (hK _ _ ?_)
     clear hK K HC9 p4
     have HFS := qh (show qci S.L GG ([k0, k1, k2, k3].drop 0) = qci S.L GG [k0, k1, k2, k3] from rfl)
     obtain ⟨F, hF⟩ : ∃ F, F = qci S.L GG [k0, k1, k2, k3] := ⟨_, rfl⟩
     rw [← hF] at HE3 HFS
     clear hF
     go_wp2_with fail
     go_loopg [51] 4 (fun gi v51 wx => ∃ j : Nat, j + gi = 4 ∧ v51 = .int .i64 (j : Int) ∧ qci S.L GG ([k0, k1, k2, k3].drop j) = F ∧ Kept w1 wx)
     case atStart => exact ⟨0, rfl, rfl, HFS.out, HK4.out⟩
     case round =>
      clear HFS HK4
      obtain ⟨j, hjg, rfl, hF, hk⟩ := hrel
      have HK := qh hk
      have HF := qh hF
      clear hk hF
      cases gk with
      | zero =>
       obtain rfl : j = 4 := by omega
       have hF := HF.out
       simp only [List.drop, qci] at hF
       have hE4 := HE3.out
       rw [← hF] at hE4
       simp only [show ¬ (271 : Int) = 0 by decide, if_false] at hE4
       injection hE4 with h1 h2
       subst h1; subst h2
       clear HF HE3 hF
       go_wp2_with fail
       try rw [Exit.noGoto_ret]
       exact bodyPost_ret (v := .tuple #[.int .i64 0, .int .i64 271]) (by simp [results, results33, go_sem]) rfl ⟨rfl, K1.out.trans' HK.out⟩
      | succ gi =>
       obtain ⟨k, hk1, hk2, hk3, hix⟩ := HIX.out j (by omega)
       obtain ⟨m, hm⟩ : ∃ m, S.L[k]? = some m := ⟨_, List.getElem?_eq_getElem (by have := HN.out; omega)⟩
       have hdr : [k0, k1, k2, k3].drop j = k :: [k0, k1, k2, k3].drop (j + 1) := List.drop_eq_getElem_cons (show j < [k0, k1, k2, k3].length by simp; omega) |>.trans (by rw [List.getElem?_eq_some_iff.1 hk3 |>.2])
       have hF := HF.out
       rw [hdr] at hF
       unfold qci at hF
       rw [hm] at hF
       simp only at hF
       have hmo := (HS.out.nd k m hm).sq
       have HCM := qh (fun W hk i y hy => HCL.out W hk k m i y hm hy)
       obtain ⟨⟨⟨m0, m1, m2⟩, ⟨m3, m4, m5⟩, m6⟩, mt, md, mk⟩ := m
       have HOLM := qh (HOLN.out ⟨⟨m0, m1, m2⟩, ⟨m3, m4, m5⟩, m6⟩ hmo)
       simp only at hF HOLM
       generalize qcg ⟨⟨m0, m1, m2⟩, ⟨m3, m4, m5⟩, m6⟩ GG = H1 at *
       obtain ⟨hb, he, hH, hR⟩ := qeA H1
       rw [hH] at HOLM
       have HR := qh hR
       have HFM := qh hF
       have hkI : (k : Int) < (LN : Int) := by omega
       have hk0 : (0 : Int) ≤ (k : Int) := by omega
       have hjI : (j : Int) < 4 := by omega
       have hj0 : (0 : Int) ≤ (j : Int) := by omega
       have ewj : IntKind.i64.wrap ((j : Int) + 1) = ((j + 1 : Nat) : Int) := by rw [IntWalk.i64_in _ (by omega)]; omega
       have SM : Hid (∀ W, Kept w1 W → W.cell? ⟨gt, ot + k * 13, none⟩ = some (.bool m0) ∧ W.cell? ⟨gt, ot + k * 13 + 1, none⟩ = some (.string m1) ∧ W.cell? ⟨gt, ot + k * 13 + 2, none⟩ = some (.int .i64 m2) ∧ W.cell? ⟨gt, ot + k * 13 + 3, none⟩ = some (.bool m3) ∧ W.cell? ⟨gt, ot + k * 13 + 4, none⟩ = some (.string m4) ∧ W.cell? ⟨gt, ot + k * 13 + 5, none⟩ = some (.int .i64 m5) ∧ W.cell? ⟨gt, ot + k * 13 + 6, none⟩ = some (.int .i64 m6)) := qh fun W h => by
        have f := fun i y hy => HCM.out W (K1.out.trans' h) i y hy
        exact ⟨f 0 _ rfl, f 1 _ rfl, f 2 _ rfl, f 3 _ rfl, f 4 _ rfl, f 5 _ rfl, f 6 _ rfl⟩
       have HKS := qh (And.intro hk1 hk2)
       clear hF HF hm hdr hmo HCM hH hR hk3 hk1 hk2 SN
       go_upto_region 15 with fail
       clear hix
       refine wp_region_quiet (C := (KB w1)) (by kernel_rfl) (by kernel_rfl) ?_ ?_
       ·exact ⟨HK.out.trans' (Below.refl _ wr).drew⟩
       dsimp only [List.take]
       refine wQ (some 55) ?_ fun wr hw => (by (obtain ⟨⟨c0, c1, c2, c3, c4, c5⟩, p1⟩ := SK.out _ hw.k; obtain ⟨n0, n1, n2, n3, n4, n5, n6⟩ := SM.out _ hw.k); go_simp; (try with_reducible rfl))
       refine wQ (some 56) ?_ fun wr hw => (by (obtain ⟨⟨c0, c1, c2, c3, c4, c5⟩, p1⟩ := SK.out _ hw.k; obtain ⟨n0, n1, n2, n3, n4, n5, n6⟩ := SM.out _ hw.k); go_simp; (try with_reducible rfl))
       refine wQ (some 57) ?_ fun wr hw => (by (obtain ⟨⟨c0, c1, c2, c3, c4, c5⟩, p1⟩ := SK.out _ hw.k; obtain ⟨n0, n1, n2, n3, n4, n5, n6⟩ := SM.out _ hw.k); go_simp; (try with_reducible rfl))
       refine wQ (some 58) ?_ fun wr hw => (by (obtain ⟨⟨c0, c1, c2, c3, c4, c5⟩, p1⟩ := SK.out _ hw.k; obtain ⟨n0, n1, n2, n3, n4, n5, n6⟩ := SM.out _ hw.k); go_simp; (try with_reducible rfl))
       refine wQ (some 59) ?_ fun wr hw => (by (obtain ⟨⟨c0, c1, c2, c3, c4, c5⟩, p1⟩ := SK.out _ hw.k; obtain ⟨n0, n1, n2, n3, n4, n5, n6⟩ := SM.out _ hw.k); go_simp; (try with_reducible rfl))
       refine wQ (some 60) ?_ fun wr hw => (by (obtain ⟨⟨c0, c1, c2, c3, c4, c5⟩, p1⟩ := SK.out _ hw.k; obtain ⟨n0, n1, n2, n3, n4, n5, n6⟩ := SM.out _ hw.k); go_simp; (try with_reducible rfl))
       refine wQ (some 61) ?_ fun wr hw => (by (obtain ⟨⟨c0, c1, c2, c3, c4, c5⟩, p1⟩ := SK.out _ hw.k; obtain ⟨n0, n1, n2, n3, n4, n5, n6⟩ := SM.out _ hw.k); go_simp; (try with_reducible rfl))
       refine wQ (some 62) ?_ fun wr hw => (by (obtain ⟨⟨c0, c1, c2, c3, c4, c5⟩, p1⟩ := SK.out _ hw.k; obtain ⟨n0, n1, n2, n3, n4, n5, n6⟩ := SM.out _ hw.k); go_simp; (try with_reducible rfl))
       refine wQ (some 63) ?_ fun wr hw => (by (obtain ⟨⟨c0, c1, c2, c3, c4, c5⟩, p1⟩ := SK.out _ hw.k; obtain ⟨n0, n1, n2, n3, n4, n5, n6⟩ := SM.out _ hw.k); go_simp; (try with_reducible rfl))
       refine qbK (v := ?_) (f := ?_) (args := ?_) (some 64) rfl (by kernel_rfl) (fun wr hw => ?_) (fun wr hw => ?_) ?_
       rotate_left 3
       ·(obtain ⟨⟨c0, c1, c2, c3, c4, c5⟩, p1⟩ := SK.out _ hw.k; obtain ⟨n0, n1, n2, n3, n4, n5, n6⟩ := SM.out _ hw.k); go_simp; refine ⟨?_, ?_⟩ <;> with_reducible rfl
       ·refine (HOLM.out wr (K1.out.trans' hw.k)).mono ?_; rintro e w' ⟨rfl, hk⟩; refine ⟨?_, hw.on hk⟩; with_reducible rfl
       try simp only [Act.put, tdy]
       refine wQ (some 54) ?_ fun wr hw => (by (obtain ⟨⟨c0, c1, c2, c3, c4, c5⟩, p1⟩ := SK.out _ hw.k; obtain ⟨n0, n1, n2, n3, n4, n5, n6⟩ := SM.out _ hw.k); go_simp; (try with_reducible rfl))
       refine wQ (some 65) ?_ fun wr hw => (by (obtain ⟨⟨c0, c1, c2, c3, c4, c5⟩, p1⟩ := SK.out _ hw.k; obtain ⟨n0, n1, n2, n3, n4, n5, n6⟩ := SM.out _ hw.k); go_simp; (try with_reducible rfl))
       refine wQ (some 66) ?_ fun wr hw => (by (obtain ⟨⟨c0, c1, c2, c3, c4, c5⟩, p1⟩ := SK.out _ hw.k; obtain ⟨n0, n1, n2, n3, n4, n5, n6⟩ := SM.out _ hw.k); go_simp; (try with_reducible rfl))
       refine wQ (some 11) ?_ fun wr hw => (by (obtain ⟨⟨c0, c1, c2, c3, c4, c5⟩, p1⟩ := SK.out _ hw.k; obtain ⟨n0, n1, n2, n3, n4, n5, n6⟩ := SM.out _ hw.k); go_simp; (try with_reducible rfl))
       refine wQ (some 12) ?_ fun wr hw => (by (obtain ⟨⟨c0, c1, c2, c3, c4, c5⟩, p1⟩ := SK.out _ hw.k; obtain ⟨n0, n1, n2, n3, n4, n5, n6⟩ := SM.out _ hw.k); go_simp; (try with_reducible rfl))
       refine wpQuiet_nil ?_
       intro wq hq
       have KQ := qh hq.k
       clear hq HOLM SM HK
       rcases HR.out with ⟨rfl, rfl⟩ | ⟨rfl, rfl⟩
       ·have hF := HFM.out
        simp only at hF
        have hE4 := HE3.out
        rw [← hF] at hE4
        simp only [show ¬ (4 : Int) = 0 by decide, if_false] at hE4
        injection hE4 with h1 h2
        subst h1; subst h2
        clear HFM HE3 hF HR
        go_wp2_with fail
        try rw [Exit.noGoto_ret]
        exact bodyPost_ret (v := .tuple #[.int .i64 0, .int .i64 4]) (by simp [results, results33, go_sem]) rfl ⟨rfl, K1.out.trans' KQ.out⟩
       ·clear HR
        cases hb with
        | true =>
         have hF := HFM.out
         simp only at hF
         have hE4 := HE3.out
         rw [← hF] at hE4
         simp only [if_true] at hE4
         have HE4 := qh hE4
         clear HFM HE3 hF hE4
         go_wp2_with fail
         go_roundg gj
         case measure => omega
         case rel => exact ⟨k, rfl, HKS.out.2, by have h1 := HFU.out; have h2 := HKS.out.1; omega, HE4.out, KQ.out⟩
        | false =>
         have hF := HFM.out
         simp only at hF
         have HF4 := qh hF
         clear HFM hF
         go_wp2_with fail
         go_roundg gi
         case measure => omega
         case rel => exact ⟨j + 1, by omega, by go_num, HF4.out, KQ.out⟩
theorem qjx {w : World} {base p : Nat} {v : Value} {u : RuD} {S : StD} (g : GsD) (hM : TrM w base p v u S) (hS : GoodS S) (hT : T32 w) (h1 : g.re.ok) (h2 : g.im.ok) :
  Calls prog 33 #[.pointer (some ⟨p, 0, none⟩), .agg #[.bool g.re.neg, .string g.re.n, .int .i64 g.re.e, .bool g.im.neg, .string g.im.n, .int .i64 g.im.e]] w fun en w' => en = .returned (.tuple #[.int .i64 ((findD S.L g).1 : Nat), .int .i64 (findD S.L g).2]) ∧ Kept w w' := by
 cases hg : gsB g with
 | true => exact qj4 g hM hS hT hg
 | false =>
  have e : findD S.L g = (0, 2) := by unfold findD; rw [hg]; rfl
  rw [e]
  exact qkb g hM hS h1 h2 hg
end
theorem qgz {L : List NdD} {g : GsD} (h : (findD L g).2 = 0) : (findD L g).1 < L.length := by
 obtain ⟨n, hn, _⟩ := qeS (L := L) (g := g) (y := (findD L g).1) (by rw [← h])
 exact (List.getElem?_eq_some_iff.1 hn).1
def Asked (u : RuD) (S : StD) : Prop := ∀ (k : Nat) (n : NdD), S.L[k]? = some n → n.told = qaD u n.sq ∧ (qaj n.sq).2 = 0
theorem partsC_cover {s : SqD} {q : SqD × SqD × SqD × SqD} (h : qcD s = some q) : (qaj q.1).2 = 0 ∧ (qaj q.2.1).2 = 0 ∧ (qaj q.2.2.1).2 = 0 ∧ (qaj q.2.2.2).2 = 0 := by
 unfold qcD at h
 split at h
 ·split at h
  ·rename_i hc
   cases h
   exact hc
  ·cases h
 ·cases h
theorem Asked.part {u : RuD} {S : StD} (h : Asked u S) (k : Nat) : Asked u (qaH (qaD u) S k).1 := by
 cases hs : qal S k with
 | none => rw [qeT hs]; exact h
 | some nq =>
  obtain ⟨n, q⟩ := nq
  rw [qd5 hs]
  obtain ⟨hk, -, -, -, -, hq⟩ := qa5 hs
  have hc := partsC_cover hq
  intro j m hm
  rcases qff (List.getElem?_eq_some_iff.1 hk).1 hm with ⟨rfl, rfl⟩ | ⟨-, -, h2⟩ | ⟨-, -, -, s, h1, h2, h3⟩
  ·have := h _ _ hk
   exact this
  ·exact h _ _ h2
  ·rw [h2, h3]
   refine ⟨rfl, ?_⟩
   rcases h1 with rfl | rfl | rfl | rfl
   ·exact hc.1
   ·exact hc.2.1
   ·exact hc.2.2.1
   ·exact hc.2.2.2
theorem Asked.parts {u : RuD} : ∀ l {S : StD}, Asked u S → Asked u (qbj (qaD u) l S).1
 | [], _, h => h
 | k :: l, _, h => Asked.parts l (h.part k)
theorem Asked.qaW {u : RuD} {depth : Nat} : ∀ f {S : StD}, Asked u S → Asked u (qaW (qaD u) depth f S).1
 | 0, S, h => h
 | f + 1, S, h => by
  unfold Go.Proofs.YtfdnledkcongaaaGreatDoor.qaW
  split
  ·split
   ·exact h.parts _
   ·exact Asked.qaW f (h.parts _)
  ·exact h
theorem Asked.down {u : RuD} {depth : Nat} {S : StD} (h : Asked u S) : Asked u (qbV (qaD u) depth S).1 := Asked.qaW _ h
theorem sv_nonneg {d : DyD} (h : 0 ≤ d.num) : 0 ≤ sv d := Int.mul_nonneg h (Int.le_of_lt (powZ_pos _))
theorem disc_point {c : GsD} {r : DyD} (hc : gsB c = true) (hr : qad r = true) (h0 : 0 ≤ sv r) {s : SqD} {b : BaD} (hb : qaj s = (b, 0)) (hB : BallOK b) {x y : Nat} {px py : Int} (hp : Near2 px py b.c.x b.c.y (sv b.rad)) :
  (qaD ⟨0, c, r, x, y⟩ s = 1 → Near2 px py c.x c.y (sv r)) ∧ (qaD ⟨0, c, r, x, y⟩ s = 2 → ¬ Near2 px py c.x c.y (sv r)) := by
 have ha : qaD ⟨0, c, r, x, y⟩ s = qfK ⟨0, c, r, x, y⟩ b.re b.im b.r := by unfold qaD; rw [hb]
 have ht : qhN ⟨0, c, r, x, y⟩ b.re b.im b.r = qk6 ⟨0, c, r, x, y⟩ b.re b.im b.r := by unfold qhN; rw [if_pos rfl]
 have hz : ∀ t : Int, t ≠ 0 → qk6 ⟨0, c, r, x, y⟩ b.re b.im b.r = t → (t = 1 ∧ qeK b.c b.rad c r = (true, 0)) ∨ (t = 2 ∧ qfS b.c b.rad c r = (true, 0)) := by
  intro t ht0 h
  unfold qk6 at h
  simp only [hc, hr, Bool.and_self, if_true] at h
  split at h
  ·rename_i h1
   have hcc := ((qiG b.re b.im).2 h1.1).2
   have hcb : (qbE b.re b.im).1 = b.c := hcc.symm
   rw [hcb] at h
   split at h
   ·rename_i h2; exact .inl ⟨h.symm, h2⟩
   ·split at h
    ·rename_i h2; exact .inr ⟨h.symm, h2⟩
    ·exact absurd h.symm ht0
  ·exact absurd h.symm ht0
 rw [ha]
 unfold qfK
 rw [ht]
 constructor
 ·intro h
  split at h
  ·rename_i h1
   rcases hz 1 (by decide) h1 with ⟨-, h2⟩ | ⟨h2, -⟩
   ·exact within_points b.c_ok (qfj _) hc hr hB.rad_nonneg h2 hp
   ·cases h2
  ·split at h <;> cases h
 ·intro h
  split at h
  ·cases h
  ·split at h
   ·rename_i h1
    rcases hz 2 (by decide) h1 with ⟨h2, -⟩ | ⟨-, h2⟩
    ·cases h2
    ·exact apart_points b.c_ok (qfj _) hc hr hB.rad_nonneg h0 h2 hp
   ·cases h
theorem disc_corner {c : GsD} {r : DyD} (hc : gsB c = true) (hr : qad r = true) (h0 : 0 ≤ r.num) {s : SqD} (hs : sqB s = true) (hb : (qaj s).2 = 0) (x y : Nat) : ∃ l, qaA s = some l ∧ l.length = 4 ∧ ∀ g ∈ l, gsB g = true ∧ ((inS g c r).2 = 0 →
  (qaD ⟨0, c, r, x, y⟩ s = 1 → (inS g c r).1 = true) ∧ (qaD ⟨0, c, r, x, y⟩ s = 2 → (inS g c r).1 = false)) := by
 have he : qaj s = ((qaj s).1, 0) := by rw [← hb]
 obtain ⟨l, hl, hB, hn⟩ := cover_corners hs he
 refine ⟨l, hl, ?_, fun g hg => ?_⟩
 ·unfold qaA at hl
  split at hl
  ·cases hl; rfl
  ·cases hl
 have hgo := qoE hs hl g hg
 refine ⟨hgo, fun hi => ?_⟩
 have h := disc_point hc hr (sv_nonneg h0) he hB (x := x) (y := y) (hn g hg)
 have hiff := inS_sv hgo hc hr hi
 exact ⟨fun h1 => hiff.2 (h.1 h1), fun h2 => by
  cases hx : (inS g c r).1 with
  | false => rfl
  | true => exact absurd (hiff.1 hx) (h.2 h2)⟩
theorem firstH_holds {L : List NdD} {g : GsD} : ∀ (l : List Nat), (qci L g l).2 = 0 → ∃ n, L[(qci L g l).1]? = some n ∧ qcg n.sq g = some true
 | [], h => absurd h (show ¬ (271 : Int) = 0 by decide)
 | k :: l, h => by
  unfold qci at h ⊢
  cases hk : L[k]? with
  | none => rw [hk] at h; exact absurd h (show ¬ (271 : Int) = 0 by decide)
  | some n =>
   rw [hk] at h
   simp only at h ⊢
   cases hh : qcg n.sq g with
   | none => rw [hh] at h; exact absurd h (show ¬ (4 : Int) = 0 by decide)
   | some b =>
    rw [hh] at h
    cases b with
    | true => exact ⟨n, hk, hh⟩
    | false => exact firstH_holds l h
theorem downF_holds {L : List NdD} {g : GsD} {y : Nat} : ∀ (f k : Nat), (∃ n, L[k]? = some n ∧ qcg n.sq g = some true) → qez L g f k = (y, 0) → ∃ n, L[y]? = some n ∧ qcg n.sq g = some true
 | 0, k, _, h => by cases h
 | f + 1, k, ⟨n, hk, hh⟩, h => by
  unfold qez at h
  rw [hk] at h
  simp only at h
  cases hn : n.kids with
  | none =>
   rw [hn] at h
   obtain rfl : k = y := (Prod.mk.inj h).1
   exact ⟨n, hk, hh⟩
  | some w =>
   obtain ⟨p, q, r, s⟩ := w
   rw [hn] at h
   simp only at h
   split at h
   ·rename_i h2
    exact downF_holds f _ (firstH_holds _ h2) h
   ·rename_i h2
    exact absurd (Prod.mk.inj h).2 h2
theorem findD_holds {L : List NdD} {g : GsD} (h : (findD L g).2 = 0) : gsB g = true ∧ ∃ n, L[(findD L g).1]? = some n ∧ qcg n.sq g = some true := by
 obtain ⟨y, hy⟩ : ∃ y, findD L g = (y, 0) := ⟨(findD L g).1, by rw [← h]⟩
 rw [hy]
 unfold findD at hy
 split at hy
 ·rename_i hg
  refine ⟨hg, ?_⟩
  cases h0 : L[0]? with
  | none => rw [h0] at hy; cases hy
  | some n =>
   rw [h0] at hy
   simp only at hy
   cases hh : qcg n.sq g with
   | none => rw [hh] at hy; cases hy
   | some b =>
    rw [hh] at hy
    cases b with
    | false => cases hy
    | true => exact downF_holds _ _ ⟨n, h0, hh⟩ hy
 ·cases hy
theorem disc_found {c : GsD} {r : DyD} (hc : gsB c = true) (hr : qad r = true) (h0 : 0 ≤ r.num) {x y : Nat} {S : StD} (hA : Asked ⟨0, c, r, x, y⟩ S) (hS : GoodS S) {g : GsD} (h : (findD S.L g).2 = 0) :
  gsB g = true ∧ ∃ n, S.L[(findD S.L g).1]? = some n ∧ ((inS g c r).2 = 0 → (n.told = 1 → (inS g c r).1 = true) ∧ (n.told = 2 → (inS g c r).1 = false)) := by
 obtain ⟨hg, n, hn, hh⟩ := findD_holds h
 obtain ⟨ht, hb⟩ := hA _ _ hn
 have hs := (hS.nd _ _ hn).sq
 have he : qaj n.sq = ((qaj n.sq).1, 0) := by rw [← hb]
 obtain ⟨-, -, hB, -⟩ := cover_corners hs he
 refine ⟨hg, n, hn, fun hi => ?_⟩
 have h := disc_point hc hr (sv_nonneg h0) he hB (x := x) (y := y) (cover_holds hs he hg hh)
 have hiff := inS_sv hg hc hr hi
 rw [ht]
 exact ⟨fun h1 => hiff.2 (h.1 h1), fun h2 => by
  cases hx : (inS g c r).1 with
  | false => rfl
  | true => exact absurd (hiff.1 hx) (h.2 h2)⟩
section
set_option maxHeartbeats 3200000
set_option maxRecDepth 100000
theorem gall2_bad (x y : GsD) (hx : gsB x = false) (h1 : x.re.ok) (h2 : x.im.ok) (w : World) (g : Nat) (hb : Bx w g (LC2 x.re.neg x.re.n x.re.e x.im.neg x.im.n x.im.e y.re.neg y.re.n y.re.e y.im.neg y.im.n y.im.e)) :
  Calls prog 56 #[.slice (some ⟨g, 0, none⟩) 2 2] w fun en w' => en = .returned (.bool false) ∧ Kept w w' := by
 have hg : qeR x.re x.im = 2 := by unfold qeR; unfold gsB at hx; rw [if_neg (by rw [hx]; decide)]
 have CX := qh (fun W => qel x.re x.im W h1 h2)
 rw [hg] at CX
 obtain ⟨⟨a0, a1, a2⟩, ⟨a3, a4, a5⟩⟩ := x
 obtain ⟨⟨b0, b1, b2⟩, ⟨b3, b4, b5⟩⟩ := y
 simp only at CX hb
 have HB := qh hb
 clear hb hx h1 h2 hg
 go_enter func56, ntmps56
 go_wp2_with fail
 go_loopg [4, 7] 2 (fun gh v4 v7 wr => gh = 2 ∧ v7 = .int .i64 0 ∧ Kept w wr)
 case atStart => exact ⟨rfl, rfl, Below.refl _ _⟩
 case round =>
  obtain ⟨rfl, rfl, hk⟩ := hrel
  have HK := qh hk
  have B := HB.out.kept hk
  obtain ⟨⟨c0, c1, c2, c3, c4, c5⟩, c6, c7, c8, c9, c10, c11⟩ := B.c12
  have hlt := B.lt
  have hwl := hk.size
  clear hk B
  go_wp2_with (go_at_call 18; (with_reducible refine (CX.out _).mono ?_); rintro e w3 ⟨rfl, hk3⟩)
  go_ret
  exact ⟨rfl, ((HK.out.new _)).trans' hk3⟩
theorem gin_bad (x y : GsD) (r : DyD) (w : World) (hx : gsB x = false) (h1 : x.re.ok) (h2 : x.im.ok) :
  Calls prog 23 #[.agg #[.bool x.re.neg, .string x.re.n, .int .i64 x.re.e, .bool x.im.neg, .string x.im.n, .int .i64 x.im.e], .agg #[.bool y.re.neg, .string y.re.n, .int .i64 y.re.e, .bool y.im.neg, .string y.im.n, .int .i64 y.im.e], .agg #[.bool r.neg, .string r.n, .int .i64 r.e]] w
   fun en w' => en = .returned (.tuple #[.bool false, .int .i64 2]) ∧ Kept w w' := by
 have ALL := qh (gall2_bad x y hx h1 h2)
 obtain ⟨⟨x0, x1, x2⟩, ⟨x3, x4, x5⟩⟩ := x
 obtain ⟨⟨y0, y1, y2⟩, ⟨y3, y4, y5⟩⟩ := y
 obtain ⟨r0, r1, r2⟩ := r
 simp only at ALL ⊢
 clear hx h1 h2
 go_enter func23, ntmps23
 go_upto_region 1 with fail
 obtain ⟨b, w1, hw, hb, B0, B1, B2, K1, HB⟩ := qct w (LC1 x0 x1 x2 x3 x4 x5) 28 (LC1 y0 y1 y2 y3 y4 y5) 28 (LC0 r0 r1 r2) 24
 rw [← hw, ← hb]; clear hw hb
 obtain ⟨c0, c1, c2, c3, c4, c5⟩ := B0.out.c6
 obtain ⟨d0, d1, d2, d3, d4, d5⟩ := B1.out.c6
 go_wp2_with (go_at_call 56; (with_reducible refine (ALL.out _ _ ?_).mono ?_); (exact Bx.new _ _ _ _ rfl); rintro e w3 ⟨rfl, hk3⟩; have K3 := qh ((Kept.new (Below.refl _ _) _).trans' hk3))
 go_ret2
 exact ⟨rfl, K1.out.trans' K3.out⟩
theorem gin_all (x y : GsD) (r : DyD) (w : World) (h1 : x.re.ok) (h2 : x.im.ok) (hy : gsB y = true) (hr : qad r = true) (h0 : 0 ≤ r.num) (hT : T32 w) :
  Calls prog 23 #[.agg #[.bool x.re.neg, .string x.re.n, .int .i64 x.re.e, .bool x.im.neg, .string x.im.n, .int .i64 x.im.e], .agg #[.bool y.re.neg, .string y.re.n, .int .i64 y.re.e, .bool y.im.neg, .string y.im.n, .int .i64 y.im.e], .agg #[.bool r.neg, .string r.n, .int .i64 r.e]] w
   fun e w' => ∃ (b : Bool) (f : Int), e = .returned (.tuple #[.bool b, .int .i64 f]) ∧ (f = 0 → gsB x = true → inS x y r = (b, 0)) ∧ Kept w w' := by
 cases hgb : gsB x with
 | true =>
  refine (gin_any x y r w hgb hy hr h0 hT).mono ?_
  rintro e w' ⟨rfl, h⟩
  exact ⟨_, _, rfl, fun h0 _ => by rw [← h0], h⟩
 | false =>
  refine (gin_bad x y r w hgb h1 h2).mono ?_
  rintro e w' ⟨rfl, h⟩
  exact ⟨_, _, rfl, fun h0 _ => absurd h0 (by decide), h⟩
end
theorem qiP {P : Program} {fn : Func} {W : World} {tm : Array Value} {t u s b n : Nat} {T : TypeId} {vs : List Value} {x y : Value} {Q : Ending → World → Prop} {d : TypeDesc} (hr : fn.results = #[.cell t T, .tmp u, .tmp s]) (hu : P.underlying T = some d) (hd : (match d with | .struct _ | .array _ _ => true | _ => false) = true) (hi : (P.info? T).map (·.size) = some n)
  (h2 : tm.getD t undef = .pointer (some ⟨b, 0, none⟩)) (h3 : tm.getD u undef = x) (h4 : tm.getD s undef = y) (hb : Bx W b vs) (hn : vs.length = n) (hq : Q (.returned (.tuple #[.agg vs.toArray, x, y])) W) : bodyPost P fn Q Exit.ret { tmps := tm, defers := [] } W := by
 refine bodyPost_ret (v := .tuple #[.agg vs.toArray, x, y]) ?_ rfl hq
 rw [Array.getD_eq_getD_getElem?] at h2 h3 h4
 unfold results
 rw [hr]
 simp only [Sem.run_bind]
 simp [Array.mapM_eq_mapM_toList, h2, h3, h4, qer hb hn hu hd hi, asAddr]
def qja (L : List NdD) (F : Nat × Int) : Value :=
 if F.2 = 0 then (match L[F.1]? with
  | some n => .tuple #[.agg #[.bool n.sq.left.neg, .string n.sq.left.n, .int .i64 n.sq.left.e, .bool n.sq.low.neg, .string n.sq.low.n, .int .i64 n.sq.low.e, .int .i64 n.sq.e], .int .u8 (n.told : Int), .int .i64 0]
  | none => undef)
 else .tuple #[.agg ZL4.toArray, .int .u8 0, .int .i64 F.2]
set_option maxRecDepth 100000 in
set_option maxHeartbeats 6400000 in
theorem ql2 {w : World} {base p : Nat} {v : Value} {u : RuD} {S : StD} (g : GsD) (hM : TrM w base p v u S) (hS : GoodS S) (hT : T32 w) (h1 : g.re.ok) (h2 : g.im.ok) :
  Calls prog 11 #[.pointer (some ⟨p, 0, none⟩), .agg #[.bool g.re.neg, .string g.re.n, .int .i64 g.re.e, .bool g.im.neg, .string g.im.n, .int .i64 g.im.e]] w fun en w' => en = .returned (qja S.L (findD S.L g)) ∧ Kept w w' := by
 have FD := qh (fun W (hk : Kept w W) => qjx g (hM.kept hk) hS (hT.kept hk) h1 h2)
 obtain ⟨gt, ot, ct, hv, -, hgt, -, hcell, -⟩ := hM.form hS.pos
 have HBX := qh hM.box
 rw [hv] at HBX
 have HLT := qh (fun (h : (findD S.L g).2 = 0) => qgz h)
 have HCL : Hid (∀ W, Kept w W → ∀ (k : Nat) (n : NdD) (i : Nat) (y : Value), S.L[k]? = some n → (ndV n)[i]? = some y → W.cell? ⟨gt, ot + k * 13 + i, none⟩ = some y) := qh fun W hk k n i y hn hy => by
  rw [Nat.add_assoc]; exact (hk.cells _ _ hgt).trans (hcell k n i y hn hy)
 have HP := qh hM.box.lt
 clear hM hS hT h1 h2 hv hcell
 generalize findD S.L g = F at *
 obtain ⟨x, e⟩ := F
 obtain ⟨RR, hRR⟩ : ∃ RR, RR = qja S.L (x, e) := ⟨_, rfl⟩
 rw [← hRR]
 have HRR := qh hRR
 simp only at FD HLT ⊢
 obtain ⟨⟨r0, r1, r2⟩, ⟨i0, i1, i2⟩⟩ := g
 simp only at FD
 clear hRR
 go_enter func11, ntmps11
 go_upto_region 1 with fail
 obtain ⟨b, w1, hw, hb, B0, B1, K1, HB⟩ := qa7 w (LC1 r0 r1 r2 i0 i1 i2) 28 ZL4 26
 rw [← hw, ← hb]; clear hw hb
 obtain ⟨c0, c1, c2, c3, c4, c5⟩ := B0.out.c6
 go_wp2_with fail
 refine (FD.out _ K1.out).mono ?_
 rintro en w2 ⟨rfl, hk2⟩
 have K2 := qh hk2
 have B2 := qh (B1.out.kept hk2)
 clear hk2 FD c0 c1 c2 c3 c4 c5
 by_cases he : e = 0
 ·subst he
  have hlt := HLT.out rfl
  obtain ⟨n, hn⟩ : ∃ n, S.L[x]? = some n := ⟨_, List.getElem?_eq_getElem hlt⟩
  have hR := HRR.out
  unfold qja at hR
  simp only [if_true] at hR
  rw [hn] at hR
  simp only at hR
  have HCM := qh (fun W hk i y hy => HCL.out W hk x n i y hn hy)
  obtain ⟨LN, hLN⟩ : ∃ LN, LN = S.L.length := ⟨_, rfl⟩
  rw [← hLN] at HBX hlt
  obtain ⟨⟨⟨m0, m1, m2⟩, ⟨m3, m4, m5⟩, m6⟩, mt, md, mk⟩ := n
  simp only at hR
  subst hR
  have hxI : (x : Int) < (LN : Int) := by omega
  have hx0 : (0 : Int) ≤ (x : Int) := by omega
  have SM : Hid (∀ W, Kept w W → W.cell? ⟨gt, ot + x * 13, none⟩ = some (.bool m0) ∧ W.cell? ⟨gt, ot + x * 13 + 1, none⟩ = some (.string m1) ∧ W.cell? ⟨gt, ot + x * 13 + 2, none⟩ = some (.int .i64 m2) ∧ W.cell? ⟨gt, ot + x * 13 + 3, none⟩ = some (.bool m3) ∧ W.cell? ⟨gt, ot + x * 13 + 4, none⟩ = some (.string m4) ∧ W.cell? ⟨gt, ot + x * 13 + 5, none⟩ = some (.int .i64 m5) ∧ W.cell? ⟨gt, ot + x * 13 + 6, none⟩ = some (.int .i64 m6) ∧ W.cell? ⟨gt, ot + x * 13 + 7, none⟩ = some (.int .u8 (mt : Int)) ∧ W.cell? ⟨p, 1, none⟩ = some (.slice (some ⟨gt, ot, none⟩) LN ct)) := qh fun W h => by
   have f := fun i y hy => HCM.out W h i y hy
   exact ⟨f 0 _ rfl, f 1 _ rfl, f 2 _ rfl, f 3 _ rfl, f 4 _ rfl, f 5 _ rfl, f 6 _ rfl, f 7 _ rfl, (HBX.out.kept h).c 1 rfl⟩
  have hS0 := SM.out _ (K1.out.trans' (K2.out.trans' (Below.refl _ w2).drew))
  have KD := qh (show Kept w1 w2.drew from K2.out.trans' (Below.refl _ w2).drew)
  have B3 := qh (B2.out.kept (Below.refl _ w2).drew)
  clear hn hLN HRR HLT HCM HCL
  go_upto_region 4 with fail
  refine qab (fun W => W.cell? ⟨gt, ot + x * 13, none⟩ = some (.bool m0) ∧ W.cell? ⟨gt, ot + x * 13 + 1, none⟩ = some (.string m1) ∧ W.cell? ⟨gt, ot + x * 13 + 2, none⟩ = some (.int .i64 m2) ∧ W.cell? ⟨gt, ot + x * 13 + 3, none⟩ = some (.bool m3) ∧ W.cell? ⟨gt, ot + x * 13 + 4, none⟩ = some (.string m4) ∧ W.cell? ⟨gt, ot + x * 13 + 5, none⟩ = some (.int .i64 m5) ∧ W.cell? ⟨gt, ot + x * 13 + 6, none⟩ = some (.int .i64 m6) ∧ W.cell? ⟨gt, ot + x * 13 + 7, none⟩ = some (.int .u8 (mt : Int)) ∧ W.cell? ⟨p, 1, none⟩ = some (.slice (some ⟨gt, ot, none⟩) LN ct)) [18] (by kernel_rfl) ?_ (fun hHeld => ?_)
  ·assumption
  refine wS 0 19 ?_
  refine wS 1 20 ?_
  refine wS 2 21 ?_
  refine wS 3 22 ?_
  refine wS 4 23 ?_
  refine wS 5 24 ?_
  refine wS 6 25 ?_
  refine wS 7 26 ?_
  refine wS 8 27 ?_
  refine wS 9 28 ?_
  refine wS 10 29 ?_
  refine wS 11 30 ?_
  refine wS 12 31 ?_
  refine wS 13 32 ?_
  refine wS 14 33 ?_
  refine wS 15 34 ?_
  refine qdC (i := 16) (by kernel_rfl) rfl (fun K hK => ?_)
  refine qbC rfl (qaa (vs := (LC3 m0 m1 m2 m3 m4 m5 m6)) (b := b + 1) (n := 7) _ _ rfl rfl rfl B3.out rfl rfl (by kernel_rfl) rfl ?_)
  have hS16 : (World.setRow w2.drew (b + 1) (LC3 m0 m1 m2 m3 m4 m5 m6).toArray).cell? ⟨gt, ot + x * 13, none⟩ = some (.bool m0) ∧ (World.setRow w2.drew (b + 1) (LC3 m0 m1 m2 m3 m4 m5 m6).toArray).cell? ⟨gt, ot + x * 13 + 1, none⟩ = some (.string m1) ∧ (World.setRow w2.drew (b + 1) (LC3 m0 m1 m2 m3 m4 m5 m6).toArray).cell? ⟨gt, ot + x * 13 + 2, none⟩ = some (.int .i64 m2) ∧ (World.setRow w2.drew (b + 1) (LC3 m0 m1 m2 m3 m4 m5 m6).toArray).cell? ⟨gt, ot + x * 13 + 3, none⟩ = some (.bool m3) ∧ (World.setRow w2.drew (b + 1) (LC3 m0 m1 m2 m3 m4 m5 m6).toArray).cell? ⟨gt, ot + x * 13 + 4, none⟩ = some (.string m4) ∧ (World.setRow w2.drew (b + 1) (LC3 m0 m1 m2 m3 m4 m5 m6).toArray).cell? ⟨gt, ot + x * 13 + 5, none⟩ = some (.int .i64 m5) ∧ (World.setRow w2.drew (b + 1) (LC3 m0 m1 m2 m3 m4 m5 m6).toArray).cell? ⟨gt, ot + x * 13 + 6, none⟩ = some (.int .i64 m6) ∧ (World.setRow w2.drew (b + 1) (LC3 m0 m1 m2 m3 m4 m5 m6).toArray).cell? ⟨gt, ot + x * 13 + 7, none⟩ = some (.int .u8 (mt : Int)) ∧ (World.setRow w2.drew (b + 1) (LC3 m0 m1 m2 m3 m4 m5 m6).toArray).cell? ⟨p, 1, none⟩ = some (.slice (some ⟨gt, ot, none⟩) LN ct) := SM.out _ (Kept.row (K1.out.trans' KD.out) (b := b + 1) (by have := HB.out; omega) _)
  refine hK.out _ _ hS16 (fun hHeld => ?_)
  clear hK K
  try simp only [Act.put, tdy]
  refine oS 17 fun K hK => ?_
  go_simp
  refine hK.out _ _ ?_ (fun hHeld => ?_)
  ·assumption
  clear hK K
  try simp only [Act.put, tdy]
  refine eS 18 fun K hK => ?_
  go_simp
  refine hK.out _ _ ?_
  clear hK K
  try simp only [Act.put, tdy]
  refine dS ?_ _
  have B4 := qh (B3.out.row (LC3 m0 m1 m2 m3 m4 m5 m6))
  have K4 := qh (Kept.row (K1.out.trans' KD.out) (b := b + 1) (by have := HB.out; omega) (LC3 m0 m1 m2 m3 m4 m5 m6))
  generalize World.setRow _ _ _ = w4 at *
  go_wp2_with fail
  refine qiP results11 underlying26 rfl (by kernel_rfl) rfl rfl rfl B4.out rfl ⟨rfl, K4.out⟩
 ·have hR := HRR.out
  unfold qja at hR
  rw [if_neg he] at hR
  subst hR
  have hne : (e != 0) = true := by simpa using he
  clear HRR HLT HCL he
  go_upto_region 3 with fail
  refine wp_region_list ?_
  refine wpList_plain rfl fun K hK => qaK ZL4 _ _ rfl (by kernel_rfl) (hK _ _ ?_)
  clear hK K
  refine wpList_plain rfl fun K hK => ?_
  go_step
  refine hK _ _ ?_
  clear hK K
  refine wpList_plain rfl fun K hK => qaa (vs := ZL4) (b := b + 1) (n := 7) _ _ rfl rfl rfl B2.out rfl rfl (by kernel_rfl) rfl (hK _ _ ?_)
  clear hK K
  have B4 := qh (B2.out.row ZL4)
  have K4 := qh (Kept.row (K1.out.trans' K2.out) (b := b + 1) (by have := HB.out; omega) ZL4)
  generalize World.setRow _ _ _ = w4 at *
  go_wp2_with fail
  exact qiP results11 underlying26 rfl (by kernel_rfl) rfl rfl rfl B4.out rfl ⟨rfl, K4.out⟩
section
set_option maxHeartbeats 6400000
set_option maxRecDepth 100000
attribute [local go_sem] qah qae
theorem qiV (s : SqD) (w : World) (hs : s.ok) (hb : sqB s = false) :
  Calls prog 31 #[.agg #[.bool s.left.neg, .string s.left.n, .int .i64 s.left.e, .bool s.low.neg, .string s.low.n, .int .i64 s.low.e, .int .i64 s.e]] w fun en w' => en = .returned (.tuple #[.agg #[.complex .f64 0 0, .float .f64 0], .int .i64 240]) ∧ Kept w w' := by
 have RT : Hid (∀ W, Calls prog 54 #[.agg #[.bool s.left.neg, .string s.left.n, .int .i64 s.left.e, .bool s.low.neg, .string s.low.n, .int .i64 s.low.e, .int .i64 s.e]] W fun en w' => en = .returned (.int .i64 240) ∧ Kept W w') := fun W => by
  have := qbr s W hs
  rwa [hb] at this
 obtain ⟨⟨a0, a1, a2⟩, ⟨a3, a4, a5⟩, a6⟩ := s
 simp only at RT ⊢
 clear hs hb
 go_enter func31, ntmps31
 go_upto_region 1 with fail
 obtain ⟨b, w1, hw, hb, B0, B1, K1, HB⟩ := qa7 w (LC3 a0 a1 a2 a3 a4 a5 a6) 26 [.complex .f64 0 0, .float .f64 0] 85
 rw [← hw, ← hb]; clear hw hb
 obtain ⟨c0, c1, c2, c3, c4, c5, c6⟩ := B0.out.c7
 go_upto_region 2 with (go_at_call 54; (with_reducible refine (RT.out _).mono ?_); rintro e w2 ⟨rfl, hk2⟩)
 have K2 := qh (K1.out.trans' hk2)
 have B2 := qh (B1.out.kept hk2)
 clear hk2 c0 c1 c2 c3 c4 c5 c6 RT
 refine wp_region_list ?_
 refine wpList_plain rfl fun K hK => qaK [.complex .f64 0 0, .float .f64 0] _ _ rfl (by kernel_rfl) (hK _ _ ?_)
 clear hK K
 refine wpList_plain rfl fun K hK => qaa (vs := [.complex .f64 0 0, .float .f64 0]) (b := b + 1) (n := 2) _ _ rfl rfl rfl B2.out rfl rfl (by kernel_rfl) rfl (hK _ _ ?_)
 clear hK K
 replace B2 := qh (B2.out.row [.complex .f64 0 0, .float .f64 0])
 replace K2 := qh (Kept.row K2.out (b := b + 1) (by have := HB.out; omega) [.complex .f64 0 0, .float .f64 0])
 generalize World.setRow w2 _ _ = w3 at *
 go_wp2_with fail
 exact qbZ results31 underlying85 rfl (by kernel_rfl) rfl rfl B2.out rfl ⟨rfl, K2.out⟩
def qgm (s : SqD) : BaD × Int := if sqB s = true then qaj s else (⟨0, 0, 0⟩, 240)
theorem qlT (s : SqD) (w : World) (hs : s.ok) (hT : T32 w) :
  Calls prog 31 #[.agg #[.bool s.left.neg, .string s.left.n, .int .i64 s.left.e, .bool s.low.neg, .string s.low.n, .int .i64 s.low.e, .int .i64 s.e]] w fun en w' => en = .returned (qh7 (qgm s)) ∧ Kept w w' := by
 unfold qgm
 cases hb : sqB s with
 | true => rw [if_pos rfl]; exact qhI s w hb hT
 | false => rw [if_neg (by simp)]; exact qiV s w hs hb
def qdB (u : RuD) (s : SqD) : StD := ⟨[⟨s, qaD u s, 0, none⟩], 1⟩
theorem qec {u : RuD} {s : SqD} (hs : sqB s = true) : GoodS (qdB u s) := by
 refine ⟨fun k n hk => ?_, fun k n p q r t hk hn => ?_, rfl, by show 1 ≤ 65536; omega, by show 0 < 1; omega⟩
 ·cases k with
  | zero => cases hk; exact ⟨hs, qkZ u s, by show 0 ≤ 40; omega⟩
  | succ k => simp [qdB] at hk
 ·cases k with
  | zero => cases hk; cases hn
  | succ k => simp [qdB] at hk
theorem qdN (u : RuD) (s : SqD) : Whole (qdB u s) := by
 refine ⟨⟨_, [0], .leaf 0 ⟨s, qaD u s, 0, none⟩ rfl rfl, List.Perm.refl _⟩, fun k n p q r t hk hn => ?_, rfl, by show 0 < 1; omega, by show 1 ≤ 65536; omega⟩
 cases k with
 | zero => cases hk; cases hn
 | succ k => simp [qdB] at hk
def qiv (w : World) (u : RuD) (s : SqD) (en : Ending) (w' : World) : Prop :=
 Kept w w' ∧ if sqB s = true ∧ (qaj s).2 = 0 then ∃ p v, en = .returned (.tuple #[.pointer (some ⟨p, 0, none⟩), .int .i64 0]) ∧ TrM w' w.heap.size p v u (qdB u s)
 else ∃ e : Int, e ≠ 0 ∧ en = .returned (.tuple #[.pointer none, .int .i64 e]) ∧ e = (qgm s).2
theorem new_any {w : World} {u : RuD} (s : SqD) (hs : s.ok) (hu : u.ok) (hT : T32 w) :
  Calls prog 9 #[.agg #[.bool s.left.neg, .string s.left.n, .int .i64 s.left.e, .bool s.low.neg, .string s.low.n, .int .i64 s.low.e, .int .i64 s.e], .iface 31 (.agg (ruL u).toArray)] w (qiv w u s) := by
 have CV := qh (fun W (hk : Kept w W) => qlT s W hs (hT.kept hk))
 have hif : ∀ W, (binOp .eql 82 (.iface 31 (.agg (ruL u).toArray)) .nilIface).run prog W = .ok (.bool false) W := fun W => by kernel_rfl
 obtain ⟨PP, hPP⟩ : ∃ PP, PP = qiv w u s := ⟨_, rfl⟩
 rw [← hPP]
 obtain ⟨CB, hCB⟩ : ∃ CB, CB = qgm s := ⟨_, rfl⟩
 rw [← hCB] at CV
 have hgood : CB.2 = 0 → sqB s = true ∧ (qaj s).2 = 0 ∧ CB = qaj s := fun h => by
  rw [hCB] at h ⊢
  unfold qgm at h ⊢
  split at h
  ·rename_i h1; rw [if_pos h1]; exact ⟨h1, h, rfl⟩
  ·exact absurd h (show ¬ (240 : Int) = 0 by decide)
 have PX1 : Hid (CB.2 ≠ 0 → ∀ w', Kept w w' → PP (.returned (.tuple #[.pointer none, .int .i64 CB.2])) w') := qh fun h w' hk => by
  rw [hPP]
  refine ⟨hk, ?_⟩
  rw [if_neg (fun h2 => h (by rw [hCB]; unfold qgm; rw [if_pos h2.1]; exact h2.2))]
  exact ⟨_, h, rfl, by rw [hCB]⟩
 have PX0 : Hid (CB.2 = 0 → ∀ w' p v, Kept w w' → TrM w' w.heap.size p v u (qdB u s) → PP (.returned (.tuple #[.pointer (some ⟨p, 0, none⟩), .int .i64 0])) w') := qh fun h w' p v hk hM => by
  rw [hPP]
  refine ⟨hk, ?_⟩
  rw [if_pos ⟨(hgood h).1, (hgood h).2.1⟩]
  exact ⟨p, v, rfl, hM⟩
 have ASK : Hid (CB.2 = 0 → ∀ W, Calls prog 32 #[.iface 31 (.agg (ruL u).toArray), .agg #[.complex .f64 CB.1.re CB.1.im, .float .f64 CB.1.r]] W fun en w' => en = .returned (.int .u8 (qaD u s : Nat)) ∧ Kept W w') := qh fun hc W => by
  obtain ⟨hb, -, he⟩ := hgood hc
  have h := qhu hb
  rw [he]
  exact qk8 u hu _ _ _ h.1 h.2.1 h.2.2 W
 have HSD : Hid (qc7 (qdB u s).L = [.bool s.left.neg, .string s.left.n, .int .i64 s.left.e, .bool s.low.neg, .string s.low.n, .int .i64 s.low.e, .int .i64 s.e, .int .u8 (qaD u s : Nat), .int .i64 0, .int .i64 0, .int .i64 0, .int .i64 0, .int .i64 0]) := qh rfl
 obtain ⟨⟨b0, b1, b2⟩, ce⟩ := CB
 obtain ⟨tt, htt⟩ : ∃ tt, tt = qaD u s := ⟨_, rfl⟩
 rw [← htt] at ASK HSD
 simp only at CV PX0 PX1 ASK
 clear hPP hgood hCB htt hs hu hT
 generalize hSD : qdB u s = SD at PX0 HSD
 have HSN : Hid (SD.n = 1 ∧ SD.L.length = 1) := qh (by rw [← hSD]; exact ⟨rfl, rfl⟩)
 clear hSD
 obtain ⟨⟨a0, a1, a2⟩, ⟨a3, a4, a5⟩, a6⟩ := s
 simp only at CV HSD ⊢
 obtain ⟨RV, hRV⟩ : ∃ RV : Value, RV = .agg (ruL u).toArray := ⟨_, rfl⟩
 have HRV := qh hRV
 rw [← hRV] at ASK hif ⊢
 clear hRV
 go_enter func9, ntmps9
 go_upto_region 1 with fail
 obtain ⟨b, w1, hw, hb, B0, K1, HB⟩ := qa4 w (LC3 a0 a1 a2 a3 a4 a5 a6) 26
 rw [← hw, ← hb]; clear hw hb
 obtain ⟨c0, c1, c2, c3, c4, c5, c6⟩ := B0.out.c7
 go_upto_region 3 with fail
 refine wp_region_list ?_
 refine wpList_plain rfl fun K hK => ?_
 go_step
 refine hK _ _ ?_
 clear hK K
 refine wpList_plain rfl fun K hK => ?_
 go_step
 (with_reducible refine (CV.out _ K1.out).mono ?_); rintro e w2 ⟨rfl, hk2⟩
 refine hK _ _ ?_
 clear hK K CV
 refine wpList_plain rfl fun K hK => ?_
 go_step
 refine hK _ _ ?_
 clear hK K
 refine wpList_plain rfl fun K hK => ?_
 go_step
 refine hK _ _ ?_
 clear hK K
 refine wpList_plain rfl fun K hK => ?_
 go_step
 refine hK _ _ ?_
 clear hK K
 refine wpList_plain rfl fun K hK => ?_
 go_step
 refine hK _ _ ?_
 clear hK K
 have K3 := qh (Kept.new hk2 (.cells #[.complex .f64 0 0, .float .f64 0] 85))
 have B2 := qh (Bx.new w2 [.complex .f64 0 0, .float .f64 0] 85 w2.heap.size rfl)
 obtain ⟨c, hc⟩ : ∃ c, c = w2.heap.size := ⟨_, rfl⟩
 have HC := qh (show w1.heap.size ≤ c by have := hk2.size; omega)
 rw [← hc] at B2 ⊢
 clear hc hk2 c0 c1 c2 c3 c4 c5 c6
 generalize World.alloc w2 _ = w3 at *
 refine wpList_plain rfl fun K hK => qaa (vs := [.complex .f64 b0 b1, .float .f64 b2]) (b := c) (n := 2) _ _ rfl rfl rfl B2.out rfl rfl (by kernel_rfl) rfl (hK _ _ ?_)
 clear hK K
 replace B2 := qh (B2.out.row [.complex .f64 b0 b1, .float .f64 b2])
 replace K3 := qh (Kept.row K3.out HC.out [.complex .f64 b0 b1, .float .f64 b2])
 generalize World.setRow w3 _ _ = w4 at *
 by_cases hce : ce = 0
 ·subst hce
  have ASK2 := qh (ASK.out rfl)
  have PX := qh (PX0.out rfl)
  clear ASK PX0 PX1
  go_upto_region 6 with fail
  have SK : Hid (∀ W, Kept w4 W → (W.cell? ⟨b, 0, none⟩ = some (.bool a0) ∧ W.cell? ⟨b, 1, none⟩ = some (.string a1) ∧ W.cell? ⟨b, 2, none⟩ = some (.int .i64 a2) ∧ W.cell? ⟨b, 3, none⟩ = some (.bool a3) ∧ W.cell? ⟨b, 4, none⟩ = some (.string a4) ∧ W.cell? ⟨b, 5, none⟩ = some (.int .i64 a5) ∧ W.cell? ⟨b, 6, none⟩ = some (.int .i64 a6)) ∧ W.cell? ⟨c, 0, none⟩ = some (.complex .f64 b0 b1) ∧ W.cell? ⟨c, 1, none⟩ = some (.float .f64 b2)) := qh fun W h => ⟨(B0.out.kept (K3.out.trans' h)).c7, (B2.out.kept h).c 0 rfl, (B2.out.kept h).c 1 rfl⟩
  have hS0 := SK.out _ (Below.refl _ w4).drew
  have KX : Hid (Kept w4 w4.drew) := qh (Below.refl _ w4).drew
  refine qab (fun W => (W.cell? ⟨b, 0, none⟩ = some (.bool a0) ∧ W.cell? ⟨b, 1, none⟩ = some (.string a1) ∧ W.cell? ⟨b, 2, none⟩ = some (.int .i64 a2) ∧ W.cell? ⟨b, 3, none⟩ = some (.bool a3) ∧ W.cell? ⟨b, 4, none⟩ = some (.string a4) ∧ W.cell? ⟨b, 5, none⟩ = some (.int .i64 a5) ∧ W.cell? ⟨b, 6, none⟩ = some (.int .i64 a6)) ∧ W.cell? ⟨c, 0, none⟩ = some (.complex .f64 b0 b1) ∧ W.cell? ⟨c, 1, none⟩ = some (.float .f64 b2)) [10] (by kernel_rfl) ?_ (fun hHeld => ?_)
  ·(first | assumption | exact SK.out _ K15.out | exact SK.out _ (K15.out.trans' (Kept.new (Below.refl _ _) _)) | exact SK.out _ ((K15.out.trans' (Kept.new (Below.refl _ _) _)).trans' (Kept.new (Below.refl _ _) _)))
  refine wS 0 18 ?_
  refine wS 1 19 ?_
  refine wS 2 20 ?_
  refine wS 3 21 ?_
  refine oS 4 fun K hK => ?_
  go_simp
  (refine (ASK2.out _).mono ?_; rintro en w15 ⟨rfl, hk15⟩; have K15 : Hid (Kept w4 w15) := qh ((Below.refl _ w4).drew.trans (hk15.mono (Nat.le_refl _))); have hS15 := SK.out w15 K15.out)
  refine hK.out _ _ ?_ (fun hHeld => ?_)
  ·(first | assumption | exact SK.out _ K15.out | exact SK.out _ (K15.out.trans' (Kept.new (Below.refl _ _) _)) | exact SK.out _ ((K15.out.trans' (Kept.new (Below.refl _ _) _)).trans' (Kept.new (Below.refl _ _) _)))
  clear hK K
  try simp only [Act.put, tdy]
  refine wS 5 23 ?_
  refine oS 6 fun K hK => ?_
  go_simp
  refine hK.out _ _ ?_ (fun hHeld => ?_)
  ·(first | assumption | exact SK.out _ K15.out | exact SK.out _ (K15.out.trans' (Kept.new (Below.refl _ _) _)) | exact SK.out _ ((K15.out.trans' (Kept.new (Below.refl _ _) _)).trans' (Kept.new (Below.refl _ _) _)))
  clear hK K
  try simp only [Act.put, tdy]
  refine wS 7 25 ?_
  refine oS 8 fun K hK => ?_
  go_simp
  refine hK.out _ _ ?_ (fun hHeld => ?_)
  ·(first | assumption | exact SK.out _ K15.out | exact SK.out _ (K15.out.trans' (Kept.new (Below.refl _ _) _)) | exact SK.out _ ((K15.out.trans' (Kept.new (Below.refl _ _) _)).trans' (Kept.new (Below.refl _ _) _)))
  clear hK K
  try simp only [Act.put, tdy]
  refine oS 9 fun K hK => ?_
  go_simp
  refine hK.out _ _ ?_ (fun hHeld => ?_)
  ·(first | assumption | exact SK.out _ K15.out | exact SK.out _ (K15.out.trans' (Kept.new (Below.refl _ _) _)) | exact SK.out _ ((K15.out.trans' (Kept.new (Below.refl _ _) _)).trans' (Kept.new (Below.refl _ _) _)))
  clear hK K
  try simp only [Act.put, tdy]
  refine eS 10 fun K hK => ?_
  go_simp
  refine hK.out _ _ ?_
  clear hK K
  try simp only [Act.put, tdy]
  refine dS ?_ _
  have hK5 := (K1.out.trans' (K3.out.trans' K15.out))
  have hz6 : w.heap.size ≤ w15.heap.size := hK5.size
  have HO := Own.new w15 #[.bool a0, .string a1, .int .i64 a2, .bool a3, .string a4, .int .i64 a5, .int .i64 a6, .int .u8 (tt : Int), .int .i64 0, .int .i64 0, .int .i64 0, .int .i64 0, .int .i64 0] 91 (0, 0) 1 13 (qc7 SD.L) w.heap.size w15.heap.size rfl hz6 (by unfold maxLen; omega) rfl (by rw [HSD.out]) (.inr rfl)
  have hK6 := Kept.new hK5 (.cells #[.bool a0, .string a1, .int .i64 a2, .bool a3, .string a4, .int .i64 a5, .int .i64 a6, .int .u8 (tt : Int), .int .i64 0, .int .i64 0, .int .i64 0, .int .i64 0, .int .i64 0] 91)
  generalize hW6 : w15.alloc (.cells #[.bool a0, .string a1, .int .i64 a2, .bool a3, .string a4, .int .i64 a5, .int .i64 a6, .int .u8 (tt : Int), .int .i64 0, .int .i64 0, .int .i64 0, .int .i64 0, .int .i64 0] 91) = w6 at *
  have hs6 : w6.heap.size = w15.heap.size + 1 := by (rw [← hW6]; simp)
  clear hW6
  have hB7 := Bx.new w6 [.iface 31 RV, .slice (some ⟨w15.heap.size, 0, none⟩) 1 1, .int .i64 1] 94 (w15.heap.size + 1) (by omega)
  have HP := PX.out _ (w15.heap.size + 1) (.slice (some ⟨w15.heap.size, 0, none⟩) 1 1) (Kept.new hK6 (.cells #[.iface 31 RV, .slice (some ⟨w15.heap.size, 0, none⟩) 1 1, .int .i64 1] 94)) ⟨by (rw [← HRV.out, HSN.out.1]; exact hB7), by (rw [HSN.out.2]; exact HO.alloc _), by omega, fun i hi => by (cases hi; show w15.heap.size ≠ w15.heap.size + 1; omega)⟩
  clear HO hB7
  go_wp2_with fail
  exact HP
 ·have hne : (ce != 0) = true := by simpa using hce
  have PX := qh (PX1.out hce)
  clear PX0 PX1 ASK hce
  go_wp2_with fail
  have HP := PX.out _ (K1.out.trans' K3.out)
  exact HP
end
def qcq (L : List NdD) (k : Nat) : UInt8 := match L[k]? with
 | none => 0
 | some n => if n.kids.isNone then TrT.qhb n.told else 112
def bytesD (S : StD) : List UInt8 := (qd3 S.L S.L.length 0).map (qcq S.L)
def Apart (v w : Value) : Prop := ∀ i, v.ownBlock = some i → w.ownBlock ≠ some i
theorem Apart.sw {v w : Value} (h : Apart v w) : Apart w v := fun i hi hj => h i hj hi
theorem Apart.grown {W : World} {v w v' : Value} {base size n : Nat} {xs : List Value} (h : Apart v w) (hw : Own W base size w n xs) (hv : v'.ownBlock = v.ownBlock ∨ ∀ i, v'.ownBlock = some i → W.heap.size ≤ i) : Apart v' w := fun i hi hj => by
 rcases hv with e | e
 ·exact h i (e ▸ hi) hj
 ·have h1 := e i hi; have h2 := (hw.lt i hj).2; omega
set_option maxRecDepth 100000 in
set_option maxHeartbeats 6400000 in
theorem qgL {w : World} {base p : Nat} {v : Value} {u : RuD} {S : StD} (hM : TrM w base p v u S) (hS : GoodS S) (hW : Whole S) :
  Calls prog 13 #[.pointer (some ⟨p, 0, none⟩)] w fun en w' => en = .returned (.string ⟨(bytesD S).toArray⟩) ∧ Kept w w' := by
 have NN := qh (qb7 hM hS)
 have HM := qh hM
 have HS := qh hS
 have HLN := qh hS.len
 have HPL := qh hW.qgs
 have HP0 := qh (qb8.start hW)
 have HBD := qh (show bytesD S = (qd3 S.L S.L.length 0).map (qcq S.L) from rfl)
 obtain ⟨BD, hBD⟩ : ∃ BD, BD = bytesD S := ⟨_, rfl⟩
 rw [← hBD] at HBD ⊢
 clear hM hS hW hBD
 go_enter func13, ntmps13
 go_wp2_with fail
 refine NN.out.mono ?_
 rintro e w1 ⟨rfl, h1⟩
 replace h1 := h1.symm
 subst h1
 have KA := qh (Kept.new (Below.refl _ w) (.cells #[.int .i64 0] 3))
 have HO0 := qh (Own.new w #[.int .i64 0] 3 (0, 0) 1 1 [.int .i64 0] w.heap.size w.heap.size rfl (Nat.le_refl _) (by decide) rfl rfl (.inr rfl))
 go_wp2_with fail
 generalize w.alloc _ = wa at *
 go_loopg [3, 4] (S.L.length + 1) (fun gh v3 v4 wr => ∃ (ks done R : List Nat) (vb vp : Value), R.length < gh ∧ v3 = vb ∧ v4 = vp ∧ qb8 S ks done R ∧ Own wr w.heap.size 1 vp ks.length (qa1 ks.reverse) ∧ Own wr w.heap.size 1 vb done.length (bytesV (done.map (qcq S.L))) ∧ Apart vb vp ∧ Kept w wr)
 case atStart => exact ⟨[0], [], qd3 S.L S.L.length 0, _, _, by have := HPL.out; omega, rfl, rfl, HP0.out, HO0.out, Own.nil _ _ _, (fun i hi => by cases hi), KA.out⟩
 case round =>
  clear HO0 KA HP0
  obtain ⟨ks, done, R, vb, vp, hgh, rfl, rfl, hp, hop, hob, hap, hk⟩ := hrel
  have HP := qh hp
  have HOB := qh hob
  have HAP := qh hap
  have HK := qh hk
  have hall := hp.all
  have hbd : done.length + R.length ≤ 87381 := by
   have h1 := HPL.out
   rw [hall] at h1
   have h2 := HLN.out
   rw [← List.length_append, h1]
   exact h2
  have HBN := qh hbd
  clear hp hob hap hk hall hbd
  cases ks with
  | nil =>
   have hE := HP.out.end_
   obtain ⟨-, rfl⟩ := hE
   have hall := HP.out.all
   rw [List.append_nil] at hall
   have hb2 : BD = done.map (qcq S.L) := by rw [HBD.out, hall]
   obtain ⟨A1, c1, hv1, -, -, -, -, -⟩ := hop.form
   simp only [List.length_nil] at hv1
   subst hv1
   obtain ⟨A2, c2, rfl, -, -, hrow, -, -⟩ := HOB.out.form
   have hcv : (convert 97 9 (.slice A2 done.length c2)).run prog wr = .ok (.string ⟨BD.toArray⟩) wr := by
    rw [hb2]
    exact qev underlying97 underlying5 underlying9 (by simp) hrow
   clear hop hb2 hall hrow HP HAP HOB
   go_wp2_with fail
   go_ret
   exact ⟨rfl, HK.out⟩
  | cons k ks =>
   obtain ⟨n, R', hk, rfl, hnext⟩ := HP.out.next
   rcases hop.2 with ⟨-, h0⟩ | ⟨g, off, cap, rfl, hbg, hgl, hnc, hcm, hx, hc⟩
   ·simp at h0
   have hck := hx ks.length (.int .i64 (k : Int)) (by simp [qa1])
   have hO2 := hop.front (k := ks.length) (by simp)
   have hle := HP.out.pile.le
   have hbnd : ks.length ≤ 87381 := by have := HBN.out; simp only [List.length_cons] at this hle; omega
   have HO2 : Hid (Own wr w.heap.size 1 (.slice (some ⟨g, off, none⟩) ks.length cap) ks.length (qa1 ks.reverse)) := by
    have e : (qa1 (k :: ks).reverse).take (ks.length * 1) = qa1 ks.reverse := by
     simp [qa1, List.take_append]
    rw [e] at hO2
    exact qh hO2
   have HAP2 : Hid (Apart _ (Value.slice (some ⟨g, off, none⟩) ks.length cap)) := qh HAP.out
   clear hop hx hc hO2 HAP
   have HBK := qh hbnd
   have HNX := qh hnext
   have HKN := qh hk
   have HRL := qh (show R'.length + 1 < gk from by simpa using hgh)
   simp only [List.length_cons] at hnc ⊢
   obtain ⟨nm, hnm⟩ : ∃ nm, nm = ks.length := ⟨_, rfl⟩
   rw [← hnm] at hck hbnd hnc HO2 HBK HAP2 ⊢
   have HNM := qh hnm
   have ew : IntKind.i64.wrap (((nm + 1 : Nat) : Int) - 1) = (nm : Int) := by rw [IntWalk.i64_in _ (by omega)]; omega
   have ew2 : IntKind.i64.wrap ((nm : Int) + 1 - 1) = (nm : Int) := by rw [IntWalk.i64_in _ (by omega)]; omega
   have ew0 : IntKind.i64.wrap (nm : Int) = (nm : Int) := by rw [IntWalk.i64_in _ (by omega)]
   have hnc2 : nm ≤ cap := by omega
   have hpos : (0 : Int) < ((nm + 1 : Nat) : Int) := by omega
   have hidx : (nm : Int) < ((nm + 1 : Nat) : Int) := by omega
   clear hnm hnext hk hle hbnd hgh
   go_upto_region 8 with fail
   have TM := HM.out.kept HK.out
   obtain ⟨gt, ot, ct, hv, -, hgt, -, hcell, -⟩ := TM.form HS.out.pos
   have HCL := qh (fun i y hy => show wr.cell? ⟨gt, ot + k * 13 + i, none⟩ = some y by rw [Nat.add_assoc]; exact hcell k n i y HKN.out hy)
   have p1 := TM.box.c 1 rfl
   rw [hv] at p1
   have hkl : (k : Int) < ((S.L.length : Nat) : Int) := by have := (List.getElem?_eq_some_iff.1 HKN.out).1; omega
   have hk0 : (0 : Int) ≤ (k : Int) := by omega
   clear hv TM hcell
   generalize S.L.length = LN at hkl p1
   refine wp_region_list ?_
   refine wpList_plain rfl fun K hK => ?_
   go_step
   refine hK _ _ ?_
   clear hK K
   refine wpList_plain rfl fun K hK => ?_
   go_step
   refine hK _ _ ?_
   clear hK K
   refine wpList_plain rfl fun K hK => ?_
   go_step
   refine hK _ _ ?_
   clear hK K
   refine wpList_plain rfl fun K hK => ?_
   go_step
   refine hK _ _ ?_
   clear hK K
   refine wpList_plain rfl fun K hK => ?_
   go_step
   refine hK _ _ ?_
   clear hK K
   refine wpList_plain rfl fun K hK => ?_
   go_step
   refine hK _ _ ?_
   clear hK K
   refine wpList_plain rfl fun K hK => qav (vs := ndV n) (g := gt) (off := ot + k * 13) (n := 13) _ rfl rfl HCL.out rfl underlying91 rfl (by kernel_rfl) (hK _ _ ?_)
   clear hK K HCL
   refine wpList_plain rfl fun K hK => ?_
   go_step
   refine hK _ _ ?_
   clear hK K
   have KY := qh (Kept.new (Below.refl _ wr) (.cells #[.bool false, .string ⟨#[]⟩, .int .i64 0, .bool false, .string ⟨#[]⟩, .int .i64 0, .int .i64 0, .int .u8 0, .int .i64 0, .int .i64 0, .int .i64 0, .int .i64 0, .int .i64 0] 91))
   have BY := qh (Bx.new wr [.bool false, .string ⟨#[]⟩, .int .i64 0, .bool false, .string ⟨#[]⟩, .int .i64 0, .int .i64 0, .int .u8 0, .int .i64 0, .int .i64 0, .int .i64 0, .int .i64 0, .int .i64 0] 91 wr.heap.size rfl)
   obtain ⟨y, hy⟩ : ∃ y, y = wr.heap.size := ⟨_, rfl⟩
   have HY := qh (show wr.heap.size ≤ y by omega)
   rw [← hy] at BY ⊢
   clear hy p1
   generalize World.alloc wr _ = w4 at *
   refine wpList_plain rfl fun K hK => qaa (vs := ndV n) (b := y) (n := 13) _ _ rfl rfl rfl BY.out rfl rfl (by kernel_rfl) rfl (hK _ _ ?_)
   clear hK K
   replace BY := qh (BY.out.row (ndV n))
   replace KY := qh (Kept.row KY.out HY.out (ndV n))
   generalize World.setRow w4 _ _ = w5 at *
   go_upto_region 9 with fail
   refine wp_region_list ?_
   refine wpList_plain rfl fun K hK => qai (vs := ndV n) (b := y) (n := 13) _ rfl rfl BY.out rfl underlying91 rfl (by kernel_rfl) (hK _ _ ?_)
   clear hK K
   refine wpList_plain rfl fun K hK => ?_
   go_step
   (with_reducible refine (qco n w5).mono ?_)
   rintro e w6 ⟨rfl, hk6⟩
   refine hK _ _ ?_
   clear hK K
   have K6 := qh (KY.out.trans' hk6)
   have BY6 := qh (BY.out.kept hk6)
   have HO6 := qh (HO2.out.kept K6.out)
   have HB6 := qh (HOB.out.kept K6.out)
   have HK6 := qh (HK.out.trans' K6.out)
   have HYB := qh (show w.heap.size ≤ y by have h1 := HY.out; have h2 := HK.out.size; omega)
   have HYN := qh (show ∀ i, (Value.slice (some ⟨g, off, none⟩) nm cap).ownBlock = some i → i ≠ y from fun i hi => by have h1 := (HO2.out.lt i hi).2; have h2 := HY.out; omega)
   have HYU := qh (show ∀ i, u3.ownBlock = some i → i ≠ y from fun i hi => by have h1 := (HOB.out.lt i hi).2; have h2 := HY.out; omega)
   clear hk6 KY BY HY HO2 HOB hck ew ew2 ew0 hpos hidx hkl hk0 K6 hgt hgl hbg hnc hcm hnc2
   rcases HNX.out with ⟨hn, hp⟩ | ⟨kp, kq, kr, ksx, hn, hp⟩
   ·have hpb : qbO n = false := by rw [qbw HS.out HKN.out, hn]; rfl
    rw [hpb]
    have HPA := qh hp
    have hcb : qcq S.L k = TrT.qhb n.told := by unfold qcq; rw [HKN.out]; simp [hn]
    have HCB := qh hcb
    have c7 := BY6.out.c 7 (show (ndV n)[7]? = some (.int .u8 (n.told : Int)) from rfl)
    have ht2 := (HS.out.nd k n HKN.out).told
    obtain ⟨tt, htt⟩ : ∃ tt, tt = n.told := ⟨_, rfl⟩
    rw [← htt] at c7 ht2 HCB
    have hix : ∀ W, (Instr.index 9 (.string ⟨#[117, 105, 111]⟩) (.int .u8 (tt : Int))).run prog W = .ok (.int .u8 (((TrT.qhb tt).toNat : Nat) : Int)) W := fun W => by
     rcases (show tt = 0 ∨ tt = 1 ∨ tt = 2 by omega) with rfl | rfl | rfl <;> kernel_rfl
    clear hp hn hpb HNX htt hcb
    obtain ⟨i0, hi, hi0, hi1, hi2⟩ := info_parts qiq
    have hbN : done.length ≤ 87381 := by have := HBN.out; omega
    have hww : w.heap.size ≤ w6.heap.size := HK6.out.size
    go_wp2_with (at_builtin; refine qap _ rfl _ _ 97 rfl w.heap.size 5 i0 (.int .u8 0) 1 1 underlying97 hi hi0 hi1 hi2 rfl (by decide) u3 done.length (bytesV (done.map (qcq S.L))) rfl (HB6.out.alloc _) (some ⟨w6.heap.size, 0, none⟩) 1 1 [.int .u8 (((TrT.qhb tt).toNat : Nat) : Int)] rfl rfl (Row.qbA _ _ _ _ _ _ rfl rfl) (by intro u hu; simp at hu; subst hu; rfl) (by unfold maxLen; omega) (by omega) (by simp; omega) ?_)
    intro v9 w9 hown9 hg9 hv9
    have hKA := Kept.new (Below.refl _ w6) (.cells #[.int .u8 (((TrT.qhb tt).toNat : Nat) : Int)] 5)
    have HO9 := qh ((HO6.out.kept hKA).grown hg9 (fun i hi e => HAP2.out.sw i hi e.symm))
    have HK9 := qh ((HK6.out.trans' hKA).grown hg9 (HK6.out.trans' hKA).size (fun i hi => (HB6.out.lt i hi).1))
    have HAP9 := qh (HAP2.out.grown (HO6.out.kept hKA) (hv9.imp id (fun h i hi => by have := h i hi; simpa using this)))
    have HB9 : Hid (Own w9 w.heap.size 1 v9 (done ++ [k]).length (bytesV ((done ++ [k]).map (qcq S.L)))) := by
     have e : bytesV ((done ++ [k]).map (qcq S.L)) = bytesV (done.map (qcq S.L)) ++ [.int .u8 (((TrT.qhb tt).toNat : Nat) : Int)] := by simp [bytesV, HCB.out]
     rw [e, List.length_append]
     exact qh hown9
    obtain ⟨A9, c9, hv9', -, -, -, -, -⟩ := hown9.form
    subst hv9'
    clear hown9 hg9 hv9 hKA HB6 HO6 HK6 HAP2 BY6 HP HBN c7 hix
    go_wp2_with fail
    go_roundg (R'.length + 1)
    case measure => have := HRL.out; omega
    case rel => exact ⟨ks, done ++ [k], R', _, _, Nat.lt_succ_self _, rfl, rfl, HPA.out, by rw [← HNM.out]; exact HO9.out, HB9.out, HAP9.out, HK9.out⟩
   ·have hpb : qbO n = true := by rw [qbw HS.out HKN.out, hn]; rfl
    rw [hpb]
    have HPA := qh hp
    have hcb : qcq S.L k = 112 := by unfold qcq; rw [HKN.out]; simp [hn]
    have HCB := qh hcb
    have HKD : Hid (∀ j : Nat, j < 4 → ∃ x i : Nat, i < 4 ∧ (3 - (j : Int)) = (i : Int) ∧ (ndV n)[9 + i]? = some (.int .i64 (x : Int)) ∧ [ksx, kr, kq, kp].take (j + 1) = [ksx, kr, kq, kp].take j ++ [x]) := by
     have hkd : n.kid = (kp, kq, kr, ksx) := by unfold NdD.kid; rw [hn]; rfl
     refine qh fun j hj => ?_
     unfold ndV
     rw [hkd]
     rcases (show j = 0 ∨ j = 1 ∨ j = 2 ∨ j = 3 by omega) with rfl | rfl | rfl | rfl
     ·exact ⟨ksx, 3, by omega, rfl, rfl, rfl⟩
     ·exact ⟨kr, 2, by omega, rfl, rfl, rfl⟩
     ·exact ⟨kq, 1, by omega, rfl, rfl, rfl⟩
     ·exact ⟨kp, 0, by omega, rfl, rfl, rfl⟩
    obtain ⟨i0, hi, hi0, hi1, hi2⟩ := info_parts qiq
    have hbN : done.length ≤ 87381 := by have := HBN.out; omega
    have hww : w.heap.size ≤ w6.heap.size := HK6.out.size
    clear hp hn hpb hcb HNX
    go_wp2_with (at_builtin; refine qap _ rfl _ _ 97 rfl w.heap.size 5 i0 (.int .u8 0) 1 1 underlying97 hi hi0 hi1 hi2 rfl (by decide) u3 done.length (bytesV (done.map (qcq S.L))) rfl (HB6.out.alloc _) (some ⟨w6.heap.size, 0, none⟩) 1 1 [.int .u8 112] rfl rfl (Row.qbA _ _ _ _ _ _ rfl rfl) (by intro u hu; simp at hu; subst hu; rfl) (by unfold maxLen; omega) (by omega) (by simp; omega) ?_)
    intro v9 w9 hown9 hg9 hv9
    have hKA := Kept.new (Below.refl _ w6) (.cells #[.int .u8 112] 5)
    have HO9 := qh ((HO6.out.kept hKA).grown hg9 (fun i hi e => HAP2.out.sw i hi e.symm))
    have HK9 := qh ((HK6.out.trans' hKA).grown hg9 (HK6.out.trans' hKA).size (fun i hi => (HB6.out.lt i hi).1))
    have HAP9 := qh (HAP2.out.grown (HO6.out.kept hKA) (hv9.imp id (fun h i hi => by have := h i hi; simpa using this)))
    have HB9 : Hid (Own w9 w.heap.size 1 v9 (done ++ [k]).length (bytesV ((done ++ [k]).map (qcq S.L)))) := by
     have e : bytesV ((done ++ [k]).map (qcq S.L)) = bytesV (done.map (qcq S.L)) ++ [.int .u8 112] := by simp [bytesV, HCB.out]
     rw [e, List.length_append]
     exact qh hown9
    have HY9 := qh ((BY6.out.kept hKA).qfY hg9 (fun e => HYU.out y e rfl))
    obtain ⟨A9, c9, hv9', -, -, -, -, -⟩ := hown9.form
    subst hv9'
    clear hown9 hg9 hv9 hKA HB6 HO6 HK6 HAP2 BY6 HP HBN hi hi0 hi1 hi2
    go_wp2_with fail
    obtain ⟨vb, hvb⟩ : ∃ vb, vb = Value.slice A9 (done.length + 1) c9 := ⟨_, rfl⟩
    rw [← hvb] at HAP9 HB9
    have HVB := qh hvb
    clear hvb
    go_loopg [4, 7] 4 (fun gj s4 s7 wx => ∃ (j : Nat) (vq : Value), j + gj = 4 ∧ s4 = vq ∧ s7 = .int .i64 (3 - (j : Int)) ∧ Bx wx y (ndV n) ∧ Own wx w.heap.size 1 vq (nm + j) (qa1 (ks.reverse ++ [ksx, kr, kq, kp].take j)) ∧ Own wx w.heap.size 1 vb (done ++ [k]).length (bytesV ((done ++ [k]).map (qcq S.L))) ∧ Apart vb vq ∧ Kept w wx ∧ ∀ i, vq.ownBlock = some i → i ≠ y)
    case atStart => exact ⟨0, _, rfl, rfl, rfl, HY9.out, by rw [List.take_zero, List.append_nil]; exact HO9.out, HB9.out, HAP9.out, HK9.out, HYN.out⟩
    case round =>
     clear HY9 HO9 HB9 HAP9 HK9 HYN
     obtain ⟨j, vq, hjg, rfl, rfl, hby, hown, hbn, hap, hkk, hyg⟩ := hrel
     have HBY := qh hby
     have HO := qh hown
     have HB := qh hbn
     have HAP := qh hap
     have HK := qh hkk
     have HYG := qh hyg
     clear hby hown hbn hap hkk hyg
     cases gk with
     | zero =>
      obtain rfl : j = 4 := by omega
      go_wp2_with fail
      go_roundg (R'.length + 1)
      case measure => have := HRL.out; omega
      case rel =>
       refine ⟨kp :: kq :: kr :: ksx :: ks, done ++ [k], R', _, _, Nat.lt_succ_self _, rfl, rfl, HPA.out, ?_, by rw [← HVB.out]; exact HB.out, by rw [← HVB.out]; exact HAP.out, HK.out⟩
       have h := HO.out
       have e : ks.reverse ++ [ksx, kr, kq, kp].take 4 = (kp :: kq :: kr :: ksx :: ks).reverse := by simp
       rw [e, HNM.out] at h
       exact h
     | succ gj =>
      obtain ⟨x, i, hi4, hji, hnx, htk⟩ := HKD.out j (by omega)
      rw [hji]
      have hyc := HBY.out.c _ hnx
      have hi0 : (0 : Int) ≤ (i : Int) := by omega
      have hi4' : (i : Int) < 4 := by omega
      have ewi : IntKind.i64.wrap ((i : Int) - 1) = (3 - ((j + 1 : Nat) : Int)) := by rw [IntWalk.i64_in _ (by omega)]; omega
      have HTK := qh htk
      have HEW := qh ewi
      clear hnx htk hji ewi
      obtain ⟨j0, hj1, hj2, hj3, hj5⟩ := info_parts qfn
      have hbase : w.heap.size ≤ wr.heap.size := HK.out.size
      go_wp2_with (at_builtin; refine qap _ rfl _ _ 98 rfl w.heap.size 3 j0 (.int .i64 0) 1 8 underlying98 hj1 hj2 hj3 hj5 rfl (by decide) u4 (nm + j) (qa1 (ks.reverse ++ [ksx, kr, kq, kp].take j)) rfl (HO.out.alloc _) (some ⟨wr.heap.size, 0, none⟩) 1 1 [.int .i64 (x : Int)] rfl rfl (Row.qbA _ _ _ _ _ _ rfl rfl) (by intro u hu; simp at hu; subst hu; rfl) (by have := HBK.out; unfold maxLen; omega) (by have := HBK.out; omega) (by simp; omega) ?_)
      intro v9 w9 hown9 hg9 hv9
      have hKA := Kept.new (Below.refl _ wr) (.cells #[.int .i64 (x : Int)] 3)
      have HBY9 := qh ((HBY.out.kept hKA).qfY hg9 (fun e => (HYG.out y e) rfl))
      have HB9 := qh ((HB.out.kept hKA).grown hg9 (fun i hi e => HAP.out i hi e.symm))
      have HK9 := qh ((HK.out.trans' hKA).grown hg9 (HK.out.trans' hKA).size (fun i hi => (HO.out.lt i hi).1))
      have HAP9 := qh ((HAP.out.sw.grown (HB.out.kept hKA) (hv9.imp id (fun h i hi => by have := h i hi; simpa using this))).sw)
      have HYG9 : Hid (∀ i, v9.ownBlock = some i → i ≠ y) := by
       refine qh fun i hi => ?_
       rcases hv9 with h | h
       ·exact HYG.out i (h ▸ hi)
       ·have h1 := h i hi
        have h2 := HBY.out.lt
        omega
      have hO9 : Own w9 w.heap.size 1 v9 (nm + (j + 1)) (qa1 (ks.reverse ++ [ksx, kr, kq, kp].take (j + 1))) := by
       rw [HTK.out, ← List.append_assoc, qdj]; exact hown9
      obtain ⟨A9, c9, rfl, -, -, -, -, -⟩ := hO9.form
      have HO9 := qh hO9
      have ewi := HEW.out
      clear hown9 hg9 hv9 hKA hO9 HBY HB HK HAP HYG HO hyc
      go_wp2_with fail
      go_roundg gj
      case measure => omega
      case rel => exact ⟨j + 1, _, by omega, rfl, by go_num, HBY9.out, HO9.out, HB9.out, HAP9.out, HK9.out, HYG9.out⟩
section
structure NdR where
 sq : SqD
 depth : Nat
 told : Nat
 par : Bool
 k0 : Nat
 k1 : Nat
 k2 : Nat
 k3 : Nat
def NdR.toD (n : NdR) : NdD := ⟨n.sq, n.told, n.depth, if n.par = true then some (n.k0, n.k1, n.k2, n.k3) else none⟩
def rdV (n : NdR) : List Value := [.bool n.sq.left.neg, .string n.sq.left.n, .int .i64 n.sq.left.e, .bool n.sq.low.neg, .string n.sq.low.n, .int .i64 n.sq.low.e, .int .i64 n.sq.e, .int .i64 (n.depth : Int), .int .u8 (n.told : Int), .bool n.par, .int .i64 (n.k0 : Int), .int .i64 (n.k1 : Int), .int .i64 (n.k2 : Int), .int .i64 (n.k3 : Int)]
def qbT : List NdR → List Value
 | [] => []
 | n :: l => rdV n ++ qbT l
theorem qcl (n : NdR) : (rdV n).length = 14 := rfl
theorem qdK : ∀ l : List NdR, (qbT l).length = l.length * 14
 | [] => rfl
 | n :: l => by simp only [qbT, List.length_append, qcl, qdK l, List.length_cons]; omega
theorem qdJ : ∀ l m : List NdR, qbT (l ++ m) = qbT l ++ qbT m
 | [], m => rfl
 | n :: l, m => by simp only [List.cons_append, qbT, qdJ l m, List.append_assoc]
theorem qfy : ∀ (l : List NdR) (k : Nat) (n : NdR) (i : Nat), l[k]? = some n → i < 14 → (qbT l)[k * 14 + i]? = (rdV n)[i]?
 | [], k, n, i, h, _ => by simp at h
 | x :: l, 0, n, i, h, hi => by
  have : x = n := by simpa using h
  subst this
  simp only [qbT, Nat.zero_mul, Nat.zero_add]
  rw [List.getElem?_append_left (by rw [qcl]; exact hi)]
 | x :: l, k + 1, n, i, h, hi => by
  have e : (k + 1) * 14 + i = 14 + (k * 14 + i) := by omega
  simp only [qbT]
  rw [e, List.getElem?_append_right (by rw [qcl]; omega), qcl, Nat.add_sub_cancel_left]
  exact qfy l k n i (by simpa using h) hi
theorem qiO (n : NdR) : qbT [n] = rdV n := by simp [qbT]
theorem qgh (n : NdR) : (rdV n).all Value.oneCell' = true := rfl
theorem qin (l : List NdR) : ∀ u ∈ qbT l, u.oneCell' = true := by
 induction l with
 | nil => intro u h; cases h
 | cons n l ih =>
  intro u h
  rcases List.mem_append.1 h with h | h
  ·exact List.all_eq_true.1 (qgh n) u h
  ·exact ih u h
theorem qft : ∀ (l : List NdR) (k : Nat) (n m : NdR) (i : Nat) (x : Value), l[k]? = some n → i < 14 → (rdV n).set i x = rdV m → (qbT l).set (k * 14 + i) x = qbT (l.set k m)
 | [], k, n, m, i, x, h, _, _ => by simp at h
 | y :: l, 0, n, m, i, x, h, hi, hm => by
  have : y = n := by simpa using h
  subst this
  simp only [qbT, Nat.zero_mul, Nat.zero_add, List.set_cons_zero]
  rw [List.set_append_left _ _ (by rw [qcl]; exact hi), hm]
 | y :: l, k + 1, n, m, i, x, h, hi, hm => by
  have e : (k + 1) * 14 + i = 14 + (k * 14 + i) := by omega
  simp only [qbT, List.set_cons_succ]
  rw [e, List.set_append_right _ _ (by rw [qcl]; omega), qcl, Nat.add_sub_cancel_left, qft l k n m i x (by simpa using h) hi hm]
structure RfM (W : World) (base p : Nat) (v : Value) (u : RuD) (L : List NdR) : Prop where
 box : Bx W p (ruL u ++ [v])
 own : Own W base 14 v L.length (qbT L)
 ge : base ≤ p
 off : ∀ k, v.ownBlock = some k → k ≠ p
section
variable {W W' : World} {base p : Nat} {v : Value} {u : RuD} {L : List NdR}
theorem RfM.kept (h : RfM W base p v u L) (hk : Kept W W') : RfM W' base p v u L := ⟨h.box.kept hk, h.own.kept hk, h.ge, h.off⟩
theorem RfM.form (h : RfM W base p v u L) (hp : 0 < L.length) : ∃ g off c, v = .slice (some ⟨g, off, none⟩) L.length c ∧ base ≤ g ∧ g < W.heap.size ∧ g ≠ p ∧ (∀ (k : Nat) (n : NdR) (i : Nat) (x : Value), L[k]? = some n → (rdV n)[i]? = some x → W.cell? ⟨g, off + (k * 14 + i), none⟩ = some x) ∧ (∀ k i, k < L.length → i < 14 → W.frozen? ⟨g, off + (k * 14 + i), none⟩ = false) := by
 rcases h.own.2 with ⟨_, h0⟩ | ⟨g, off, cap, hv, hb, hg, hnc, hcm, hx, hc⟩
 ·omega
 ·refine ⟨g, off, cap, hv, hb, hg, h.off g (by rw [hv]; rfl), fun k n i x hk hi => ?_, fun k i hk hi => ?_⟩
  ·have h13 : i < 14 := (List.getElem?_eq_some_iff.1 hi).1
   exact hx _ _ ((qfy L k n i hk h13).trans hi)
  ·have : L.length * 14 ≤ cap * 14 := Nat.mul_le_mul_right _ hnc
   exact (hc _ (by omega)).2
theorem RfM.cellsB (h : RfM W base p v u L) : ∀ k, TrB p v k → k < W.heap.size := by
 rintro k (rfl | hk)
 ·exact h.box.lt
 ·exact (h.own.lt k hk).2
end
def qfs (L : List NdR) : Nat := L.countP fun n => !n.par
def stR (L : List NdR) : StD := ⟨L.map NdR.toD, (3 * L.length + 1) / 4⟩
structure qbm (L : List NdR) : Prop where
 good : GoodS (stR L)
 whole : Whole (stR L)
theorem qbm.len {L : List NdR} (h : qbm L) : L.length ≤ 87381 := by have := h.good.len; simpa [stR] using this
theorem qbm.pos {L : List NdR} (h : qbm L) : 0 < L.length := by have := h.good.pos; simpa [stR] using this
theorem qgr {L : List NdR} {k : Nat} {n : NdR} (h : L[k]? = some n) : (stR L).L[k]? = some n.toD := by simp [stR, h]
theorem qg7 {n : NdR} : n.toD.kids.isNone = !n.par := by unfold NdR.toD; cases n.par <;> rfl
theorem qcH : ∀ t : TrT, 4 * t.leaves.length = 3 * t.size + 1
 | .leaf _ _ _ => rfl
 | .node _ _ a b c e => by
  have := qcH a; have := qcH b; have := qcH c; have := qcH e
  simp only [TrT.leaves, TrT.size, List.length_append]; omega
theorem qbf.qj5 {L : List NdD} {k : Nat} {t : TrT} {P : List Nat} (h : qbf L k t P) : (P.filter (qbi L)).length = t.leaves.length := by
 induction h with
 | leaf k n h1 h2 => simp [qbi, h1, h2, TrT.leaves]
 | node k n p q r s a b c e P Q R S h1 h2 _ _ _ _ i1 i2 i3 i4 => simp [qbi, h1, h2, TrT.leaves, List.filter_append, i1, i2, i3, i4]
theorem qfD {α : Type} (f : α → Bool) : ∀ (L : List α), ((List.range L.length).filter fun k => (L[k]?).any f).length = L.countP f
 | [] => rfl
 | x :: l => by
  rw [List.length_cons, List.range_succ_eq_map, List.filter_cons, List.countP_cons, ← qfD f l]
  simp only [List.getElem?_cons_zero, List.filter_map, List.length_map]
  have e : ((fun k => ((x :: l)[k]?).any f) ∘ Nat.succ) = fun k => (l[k]?).any f := by
   funext k; simp [Function.comp]
  rw [e]
  simp only [Option.any_some]
  split <;> simp_all
theorem Whole.leaves {S : StD} (h : Whole S) : S.L.countP (fun n => n.kids.isNone) = S.n := by
 obtain ⟨T, h1, h2⟩ := h.pre
 have h3 := h1.qj5
 have h4 := qcH T
 have h5 : T.size = S.L.length := by rw [← h1.size, h2.length_eq, List.length_range]
 have h6 : ((qd3 S.L S.L.length 0).filter (qbi S.L)).length = S.L.countP (fun n => n.kids.isNone) := by
  rw [(h2.filter _).length_eq]
  rw [show qbi S.L = (fun k => (S.L[k]?).any fun n => n.kids.isNone) from by funext k; unfold qbi; cases S.L[k]? <;> rfl]
  exact qfD (fun n : NdD => n.kids.isNone) S.L
 have := h.count
 omega
theorem qbm.cnt {L : List NdR} (h : qbm L) : qfs L = (stR L).n := by
 rw [← h.whole.leaves]
 unfold qfs stR
 simp only [List.countP_map]
 congr 1
 funext n
 simp [Function.comp, qg7]
theorem qbm.count {L : List NdR} (h : qbm L) : 4 * qfs L = 3 * L.length + 1 := by
 rw [h.cnt]; have := h.good.count; simpa [stR] using this
end
section
set_option maxHeartbeats 3200000
set_option maxRecDepth 100000
theorem qe6 {w : World} {base p : Nat} {v : Value} {u : RuD} {L : List NdR} (hM : RfM w base p v u L) (hS : qbm L) :
  Calls prog 43 #[.pointer (some ⟨p, 0, none⟩)] w fun en w' => en = .returned (.int .i64 (qfs L : Nat)) ∧ Kept w w' := by
 obtain ⟨gt, ot, ct, rfl, -, hgt, -, hcell, -⟩ := hM.form hS.pos
 have HBX := qh hM.box
 have HLN := qh hS.len
 obtain ⟨LN, hLN⟩ : ∃ LN, LN = L.length := ⟨_, rfl⟩
 have HN := qh hLN
 rw [← hLN] at HBX HLN
 have HCL := qh hcell
 have HGT := qh hgt
 have HD0 := qh (show 0 + (L.drop 0).countP (fun n => !n.par) = qfs L by simp [qfs])
 generalize qfs L = DD at *
 clear hM hS hLN hcell hgt
 have p1 := HBX.out.c 12 rfl
 go_enter func43, ntmps43
 go_wp2_with fail
 go_loopg [3, 4] LN (fun gh v3 v4 wr => ∃ j d : Nat, j + gh = LN ∧ v3 = .int .i64 (d : Int) ∧ v4 = .int .i64 (j : Int) ∧ d + (L.drop j).countP (fun n => !n.par) = DD ∧ d ≤ j ∧ Kept w wr)
 case atStart => exact ⟨0, 0, by omega, rfl, rfl, HD0.out, by omega, Below.refl _ _⟩
 case round =>
  obtain ⟨j, d, hjg, rfl, rfl, hd, hd4, hk⟩ := hrel
  have HK := qh hk
  have HD := qh hd
  have q1 := (HBX.out.kept hk).c 12 rfl
  clear hk hd
  cases gk with
  | zero =>
   obtain rfl : j = LN := by omega
   have he := HD.out
   rw [HN.out, List.drop_length] at he
   simp only [List.countP_nil, Nat.add_zero] at he
   subst he
   go_wp2_with fail
   go_ret
   exact ⟨rfl, HK.out⟩
  | succ gj =>
   obtain ⟨n, hn⟩ : ∃ n, L[j]? = some n := ⟨_, List.getElem?_eq_getElem (by have := HN.out; omega)⟩
   have hjN : (j : Int) < (LN : Int) := by omega
   have hj0 : (0 : Int) ≤ (j : Int) := by omega
   have ewj : IntKind.i64.wrap ((j : Int) + 1) = ((j + 1 : Nat) : Int) := by have := HLN.out; rw [IntWalk.i64_in _ (by omega)]; omega
   have ewd : IntKind.i64.wrap ((d : Int) + 1) = ((d + 1 : Nat) : Int) := by have := HLN.out; rw [IntWalk.i64_in _ (by omega)]; omega
   have hc9 := (HK.out.cells gt (ot + j * 14 + 9) HGT.out).trans (show w.cell? ⟨gt, ot + j * 14 + 9, none⟩ = some (.bool n.par) by rw [Nat.add_assoc]; exact HCL.out j n 9 _ hn rfl)
   have he := HD.out
   rw [List.drop_eq_getElem_cons (show j < L.length by have := HN.out; omega), (List.getElem?_eq_some_iff.1 hn).2, List.countP_cons] at he
   obtain ⟨b, hb⟩ : ∃ b, b = n.par := ⟨_, rfl⟩
   rw [← hb] at hc9 he
   clear hn HD hb
   cases b with
   | false =>
    simp only [Bool.not_false, if_true] at he
    have HE := qh (show (d + 1) + (L.drop (j + 1)).countP (fun n => !n.par) = DD by omega)
    clear he
    go_wp2_with fail
    go_roundg gj
    case measure => omega
    case rel => exact ⟨j + 1, d + 1, by omega, by go_num, by go_num, HE.out, by omega, HK.out⟩
   | true =>
    simp only [Bool.not_true, Bool.false_eq_true, if_false, Nat.add_zero] at he
    have HE := qh he
    clear he
    go_wp2_with fail
    go_roundg gj
    case measure => omega
    case rel => exact ⟨j + 1, d, by omega, rfl, by go_num, HE.out, by omega, HK.out⟩
def qof (L : List NdR) : Nat := (L.map NdR.depth).foldl max 0
theorem qkx {w : World} {base p : Nat} {v : Value} {u : RuD} {L : List NdR} (hM : RfM w base p v u L) (hS : qbm L) :
  Calls prog 49 #[.pointer (some ⟨p, 0, none⟩)] w fun en w' => en = .returned (.int .i64 (qof L : Nat)) ∧ Kept w w' := by
 obtain ⟨gt, ot, ct, rfl, -, hgt, -, hcell, -⟩ := hM.form hS.pos
 have HBX := qh hM.box
 have HLN := qh hS.len
 have HDE := qh (fun j n (hn : L[j]? = some n) => (hS.good.nd j n.toD (qgr hn)).depth)
 obtain ⟨LN, hLN⟩ : ∃ LN, LN = L.length := ⟨_, rfl⟩
 have HN := qh hLN
 rw [← hLN] at HBX HLN
 have HCL := qh hcell
 have HGT := qh hgt
 have HD0 := qh (show ((L.drop 0).map NdR.depth).foldl max 0 = qof L from rfl)
 generalize qof L = DD at *
 clear hM hS hLN hcell hgt
 have p1 := HBX.out.c 12 rfl
 go_enter func49, ntmps49
 go_wp2_with fail
 go_loopg [3, 4] LN (fun gh v3 v4 wr => ∃ j d : Nat, j + gh = LN ∧ v3 = .int .i64 (d : Int) ∧ v4 = .int .i64 (j : Int) ∧ ((L.drop j).map NdR.depth).foldl max d = DD ∧ d ≤ 40 ∧ Kept w wr)
 case atStart => exact ⟨0, 0, by omega, rfl, rfl, HD0.out, by omega, Below.refl _ _⟩
 case round =>
  obtain ⟨j, d, hjg, rfl, rfl, hd, hd4, hk⟩ := hrel
  have HK := qh hk
  have HD := qh hd
  have q1 := (HBX.out.kept hk).c 12 rfl
  clear hk hd
  cases gk with
  | zero =>
   obtain rfl : j = LN := by omega
   have he := HD.out
   rw [HN.out, List.drop_length] at he
   simp only [List.map_nil, List.foldl_nil] at he
   subst he
   go_wp2_with fail
   go_ret
   exact ⟨rfl, HK.out⟩
  | succ gj =>
   obtain ⟨n, hn⟩ : ∃ n, L[j]? = some n := ⟨_, List.getElem?_eq_getElem (by have := HN.out; omega)⟩
   have hjN : (j : Int) < (LN : Int) := by omega
   have hj0 : (0 : Int) ≤ (j : Int) := by omega
   have ewj : IntKind.i64.wrap ((j : Int) + 1) = ((j + 1 : Nat) : Int) := by have := HLN.out; rw [IntWalk.i64_in _ (by omega)]; omega
   have hc7 := (HK.out.cells gt (ot + j * 14 + 7) HGT.out).trans (show w.cell? ⟨gt, ot + j * 14 + 7, none⟩ = some (.int .i64 (n.depth : Int)) by rw [Nat.add_assoc]; exact HCL.out j n 7 _ hn rfl)
   have hnd := HDE.out j n hn
   have he := HD.out
   rw [List.drop_eq_getElem_cons (show j < L.length by have := HN.out; omega), (List.getElem?_eq_some_iff.1 hn).2] at he
   simp only [List.map_cons, List.foldl_cons] at he
   simp only [NdR.toD] at hnd
   obtain ⟨dd, hdd⟩ : ∃ dd, dd = n.depth := ⟨_, rfl⟩
   rw [← hdd] at hc7 he hnd
   have HE := qh he
   clear hn HD hdd he
   go_wp2_with fail
   go_roundg gj
   case measure => omega
   case rel => exact ⟨j + 1, max d dd, by omega, by congr 1; omega, by go_num, HE.out, by omega, HK.out⟩
end
section
set_option maxHeartbeats 6400000
set_option maxRecDepth 100000
theorem qmj (l : List Nat) : ∀ u ∈ qa1 l, u.oneCell' = true := by
 intro u hu; obtain ⟨x, -, rfl⟩ := List.mem_map.1 hu; rfl
def qdl (F : List Nat) (w : World) (en : Ending) (w' : World) : Prop := ∃ x, en = .returned x ∧ Own w' w.heap.size 1 x F.length (qa1 F) ∧ Kept w w'
theorem qkB {w : World} {base p : Nat} {v : Value} {u : RuD} {L : List NdR} {k : Nat} {n : NdR} (hM : RfM w base p v u L) (hk : L[k]? = some n) (hn : n.par = false) :
  Calls prog 93 #[.pointer (some ⟨p, 0, none⟩), .int .i64 (k : Int)] w (qdl [k] w) := by
 have hl := (List.getElem?_eq_some_iff.1 hk).1
 obtain ⟨gt, ot, ct, rfl, -, hgt, -, hcell, -⟩ := hM.form (by omega)
 have p1 := hM.box.c 12 rfl
 have hc9 : w.cell? ⟨gt, ot + k * 14 + 9, none⟩ = some (.bool false) := by rw [Nat.add_assoc, ← hn]; exact hcell k n 9 _ hk rfl
 have hkl : (k : Int) < ((L.length : Nat) : Int) := by omega
 have hk0 : (0 : Int) ≤ (k : Int) := by omega
 generalize L.length = LN at *
 clear hM hk hn hl hcell
 go_enter func93, ntmps93
 go_wp2_with fail
 go_ret
 exact ⟨_, rfl, Own.new w #[.int .i64 (k : Int)] 3 (0, 0) 1 1 [.int .i64 (k : Int)] w.heap.size w.heap.size rfl (Nat.le_refl _) (by decide) rfl rfl (.inr rfl), Kept.new (Below.refl _ w) _⟩
theorem qjT {w : World} {base p : Nat} {v : Value} {u : RuD} {L : List NdR} {k : Nat} {n : NdR} (hM : RfM w base p v u L) (hk : L[k]? = some n) (hn : n.par = true) {F0 F1 F2 F3 : List Nat} (hF : F0.length + F1.length + F2.length + F3.length ≤ 87381)
  (i0 : ∀ W, Kept w W → Calls prog 93 #[.pointer (some ⟨p, 0, none⟩), .int .i64 (n.k0 : Int)] W (qdl F0 W))
  (i1 : ∀ W, Kept w W → Calls prog 93 #[.pointer (some ⟨p, 0, none⟩), .int .i64 (n.k1 : Int)] W (qdl F1 W))
  (i2 : ∀ W, Kept w W → Calls prog 93 #[.pointer (some ⟨p, 0, none⟩), .int .i64 (n.k2 : Int)] W (qdl F2 W))
  (i3 : ∀ W, Kept w W → Calls prog 93 #[.pointer (some ⟨p, 0, none⟩), .int .i64 (n.k3 : Int)] W (qdl F3 W)) :
  Calls prog 93 #[.pointer (some ⟨p, 0, none⟩), .int .i64 (k : Int)] w (qdl (F0 ++ (F1 ++ (F2 ++ F3))) w) := by
 have hl := (List.getElem?_eq_some_iff.1 hk).1
 obtain ⟨gt, ot, ct, rfl, -, hgt, -, hcell, -⟩ := hM.form (by omega)
 have HBX := qh hM.box
 have hc9 : w.cell? ⟨gt, ot + k * 14 + 9, none⟩ = some (.bool true) := by rw [Nat.add_assoc, ← hn]; exact hcell k n 9 _ hk rfl
 have hkl : (k : Int) < ((L.length : Nat) : Int) := by omega
 have hk0 : (0 : Int) ≤ (k : Int) := by omega
 have HKD : Hid (∀ j : Nat, j < 4 → ∃ (x : Nat) (F : List Nat), (∀ W, Kept w W → W.cell? ⟨gt, ot + k * 14 + 10 + j, none⟩ = some (.int .i64 (x : Int))) ∧ ([F0, F1, F2, F3].take (j + 1)).flatten = ([F0, F1, F2, F3].take j).flatten ++ F ∧ ((([F0, F1, F2, F3].take j).flatten ++ F).length ≤ 87381) ∧
   ∀ W, Kept w W → Calls prog 93 #[.pointer (some ⟨p, 0, none⟩), .int .i64 (x : Int)] W (qdl F W)) := by
  have hc : ∀ (i : Nat) (x : Value), (rdV n)[10 + i]? = some x → ∀ W, Kept w W → W.cell? ⟨gt, ot + k * 14 + 10 + i, none⟩ = some x := fun i x hx W hW => by
   rw [Nat.add_assoc, Nat.add_assoc]
   exact (hW.cells _ _ hgt).trans (hcell k n (10 + i) x hk hx)
  refine qh fun j hj => ?_
  rcases (show j = 0 ∨ j = 1 ∨ j = 2 ∨ j = 3 by omega) with rfl | rfl | rfl | rfl
  ·exact ⟨n.k0, F0, hc 0 _ rfl, by simp, by simp; omega, i0⟩
  ·exact ⟨n.k1, F1, hc 1 _ rfl, by simp, by simp; omega, i1⟩
  ·exact ⟨n.k2, F2, hc 2 _ rfl, by simp, by simp; omega, i2⟩
  ·exact ⟨n.k3, F3, hc 3 _ rfl, by simp, by simp; omega, i3⟩
 have HFF : Hid (([F0, F1, F2, F3].take 4).flatten = F0 ++ (F1 ++ (F2 ++ F3))) := by simp; exact qh trivial
 generalize L.length = LN at *
 have p1 := HBX.out.c 12 rfl
 clear hM hk hn hl hcell i0 i1 i2 i3 hF
 generalize F0 ++ (F1 ++ (F2 ++ F3)) = FF at *
 generalize [F0, F1, F2, F3] = FL at *
 go_enter func93, ntmps93
 go_wp2_with fail
 clear p1 hc9
 go_loopg [5, 6] 4 (fun gh v5 v6 wr => ∃ (j : Nat) (vq : Value), j + gh = 4 ∧ v5 = vq ∧ v6 = .int .i64 (j : Int) ∧ Own wr w.heap.size 1 vq (FL.take j).flatten.length (qa1 (FL.take j).flatten) ∧ Kept w wr)
 case atStart => exact ⟨0, _, rfl, rfl, rfl, Own.nil _ _ _, Below.refl _ _⟩
 case round =>
  obtain ⟨j, vq, hjg, rfl, rfl, ho, hkw⟩ := hrel
  have HO := qh ho
  have HK := qh hkw
  have p1 := (HBX.out.kept hkw).c 12 rfl
  clear ho hkw
  cases gk with
  | zero =>
   obtain rfl : j = 4 := by omega
   rw [HFF.out] at HO
   obtain ⟨A, c, rfl, -, -, -, -, -⟩ := HO.out.form
   go_wp2_with fail
   go_ret
   exact ⟨_, rfl, HO.out, HK.out⟩
  | succ gj =>
   obtain ⟨x, F, hx, hf1, hf2, hcl⟩ := HKD.out j (by omega)
   have hcx := hx _ HK.out
   have hjI : (j : Int) < 4 := by omega
   have hj0 : (0 : Int) ≤ (j : Int) := by omega
   have ewj : IntKind.i64.wrap ((j : Int) + 1) = ((j + 1 : Nat) : Int) := by rw [IntWalk.i64_in _ (by omega)]; omega
   have CL := qh (hcl _ HK.out)
   have HF1 := qh hf1
   have HF2 := qh hf2
   clear hx hf1 hf2 hcl
   go_wp2_with fail
   refine CL.out.mono ?_
   rintro e w3 ⟨y, rfl, hy, hk3⟩
   obtain ⟨A3, c3, rfl, -, -, hrow, -, -⟩ := hy.form
   have HK3 := qh hk3
   have HRW := qh hrow
   have HO3 := qh (HO.out.kept hk3)
   have hf2 := HF2.out
   rw [List.length_append] at hf2
   obtain ⟨m, hm⟩ : ∃ m, m = (FL.take j).flatten.length := ⟨_, rfl⟩
   rw [← hm] at HO3 hf2
   have HM := qh hm
   have hbase : w.heap.size ≤ w3.heap.size := (HK.out.trans' hk3).size
   obtain ⟨j0, hj1, hj2, hj3, hj5⟩ := info_parts qfn
   clear hy hrow hk3 CL hcx HO hm
   go_wp2_with (at_builtin; refine qap _ rfl _ _ 98 rfl w.heap.size 3 j0 (.int .i64 0) 1 8 underlying98 hj1 hj2 hj3 hj5 rfl (by decide) u5 m (qa1 (FL.take j).flatten) rfl HO3.out A3 F.length c3 (qa1 F) rfl (by rw [qil, Nat.mul_one]) HRW.out (qmj F) (by unfold maxLen; omega) (by omega) hbase ?_)
   intro v9 w9 hown9 hg9 hv9
   have HK9 := qh ((HK.out.trans' HK3.out).grown hg9 (HK.out.trans' HK3.out).size (fun i hi => (HO3.out.lt i hi).1))
   have hO9 : Own w9 w.heap.size 1 v9 (FL.take (j + 1)).flatten.length (qa1 (FL.take (j + 1)).flatten) := by
    rw [HF1.out, qdj, List.length_append, ← HM.out]; exact hown9
   obtain ⟨A9, c9, hv9', -, -, -, -, -⟩ := hown9.form
   subst hv9'
   have HO9 := qh hO9
   clear hown9 hg9 hv9 hO9 HO3 HRW HK3 HK p1
   go_wp2_with fail
   go_roundg gj
   case measure => omega
   case rel => exact ⟨j + 1, _, by omega, rfl, by go_num, HO9.out, HK9.out⟩
theorem ql3 {base p : Nat} {v : Value} {u : RuD} {L : List NdR} {k : Nat} {T : TrT} {P : List Nat} (h : qbf (stR L).L k T P) (hP : P.length ≤ 87381) : ∀ w : World, RfM w base p v u L →
  Calls prog 93 #[.pointer (some ⟨p, 0, none⟩), .int .i64 (k : Int)] w (qdl (P.filter (qbi (stR L).L)) w) := by
 have hget : ∀ {k : Nat} {n : NdD}, (stR L).L[k]? = some n → ∃ m, L[k]? = some m ∧ m.toD = n := fun {k n} h => by
  simp only [stR, List.getElem?_map, Option.map_eq_some_iff] at h
  exact h
 induction h with
 | leaf k n h1 h2 =>
  intro w hM
  obtain ⟨m, hm, rfl⟩ := hget h1
  have hp : m.par = false := by
   have := qg7 (n := m); rw [h2] at this; simpa using this.symm
  have e : [k].filter (qbi (stR L).L) = [k] := by simp [qbi, h1, h2]
  rw [e]
  exact qkB hM hm hp
 | node k n p' q r s a b c e P Q R S h1 h2 _ _ _ _ i1 i2 i3 i4 =>
  intro w hM
  obtain ⟨m, hm, rfl⟩ := hget h1
  have hp : m.par = true := by
   have := qg7 (n := m); rw [h2] at this; simpa using this.symm
  have hk : m.k0 = p' ∧ m.k1 = q ∧ m.k2 = r ∧ m.k3 = s := by
   unfold NdR.toD at h2; rw [hp] at h2; simpa using h2
  obtain ⟨rfl, rfl, rfl, rfl⟩ := hk
  have e : (k :: (P ++ (Q ++ (R ++ S)))).filter (qbi (stR L).L) = P.filter (qbi (stR L).L) ++ (Q.filter (qbi (stR L).L) ++ (R.filter (qbi (stR L).L) ++ S.filter (qbi (stR L).L))) := by
   simp [qbi, h1, h2, List.filter_append]
  rw [e]
  simp only [List.length_cons, List.length_append] at hP
  have f1 := List.length_filter_le (qbi (stR L).L) P
  have f2 := List.length_filter_le (qbi (stR L).L) Q
  have f3 := List.length_filter_le (qbi (stR L).L) R
  have f4 := List.length_filter_le (qbi (stR L).L) S
  exact qjT hM hm hp (by omega) (fun W hW => i1 (by omega) W (hM.kept hW)) (fun W hW => i2 (by omega) W (hM.kept hW)) (fun W hW => i3 (by omega) W (hM.kept hW)) (fun W hW => i4 (by omega) W (hM.kept hW))
theorem qge {w : World} {base p : Nat} {v : Value} {u : RuD} {L : List NdR} (hM : RfM w base p v u L) (hS : qbm L) :
  Calls prog 50 #[.pointer (some ⟨p, 0, none⟩)] w (qdl (qa3 (stR L)) w) := by
 obtain ⟨T, h1, h2⟩ := hS.whole.pre
 have BE := qh (ql3 h1 (by rw [h2.length_eq, List.length_range]; exact hS.good.len) w hM)
 rw [show (qd3 (stR L).L (stR L).L.length 0).filter (qbi (stR L).L) = qa3 (stR L) from rfl] at BE
 generalize qa3 (stR L) = F at *
 clear hM hS h1 h2
 go_enter func50, ntmps50
 go_wp2_with fail
 refine BE.out.mono ?_
 rintro e w3 ⟨y, rfl, hy⟩
 have HY := qh hy
 clear hy
 go_wp2_with fail
 go_ret
 exact ⟨y, rfl, HY.out⟩
end
end Go.Proofs.YtfdnledkcongaaaGreatDoor
