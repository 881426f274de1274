/- Texts of one claim laid together: TreH, OrdW, DefT, PlcT, Lvs, TreI, TreJ, TreK, TreL. -/
import Derived.Test.YtfdnledkcongaaaGreatDoorQ11
import Derived.RangeFuncCalls
import Derived.RangeFuncLeaves
import Derived.Shelf.Abstract
import Derived.Shelf.RegionOpen
import Derived.WalkKit
import Derived.TacticsInMore
import Derived.LoopNIn
import Derived.LoopIn
import Derived.Sort.LoopGhostIn
import Derived.Sort.CutIn
import Derived.Deep.LoopGhost
import Derived.Below
import Derived.Deep.QuietTactic
import Derived.BigQuiet
set_option linter.all false
namespace Go.Proofs.YtfdnledkcongaaaGreatDoor
open Go.RowKit Go.Proofs.Tryz
section
attribute [local go_sem] qah qae
theorem Own.at_ {W : World} {base size n c g off : Nat} {xs : List Value} (h : Own W base size (.slice (some ⟨g, off, none⟩) n c) n xs) {j : Nat} {u : Value} (hj : xs[j]? = some u) : W.cell? ⟨g, off + j, none⟩ = some u := by
 rcases h.row with h | ⟨b, o, e, hc⟩
 ·subst h; cases hj
 ·injection e with e; injection e with e1 e2; subst e1; subst e2; exact hc j u hj
theorem qk9 : (prog.info? 91).map (fun i => (i.zero, i.size, i.bytes)) = some (some (.agg #[.bool false, .string ⟨#[]⟩, .int .i64 0, .bool false, .string ⟨#[]⟩, .int .i64 0, .int .i64 0, .int .u8 0, .int .i64 0, .int .i64 0, .int .i64 0, .int .i64 0, .int .i64 0]), 13, 120) := by kernel_rfl
set_option maxRecDepth 100000 in
set_option maxHeartbeats 6400000 in
theorem qmV {w : World} {base p : Nat} {v : Value} {u : RuD} {S : StD} {k : Nat} {n : NdD} (hM : TrM w base p v u S) (hS : GoodS S) (hk : S.L[k]? = some n) (hT : T32 w) (hu : u.ok) {q : SqD × SqD × SqD × SqD} (h0 : qal S k = some (n, q)) :
  Calls prog 34 #[.pointer (some ⟨p, 0, none⟩), .int .i64 (k : Int)] w (qjs w base p v u S (qaH (qaD u) S k)) := by
 have SQ := qh (qgj hM hS hk hT)
 rw [h0] at SQ
 rw [qd5 h0]
 have hlt := (List.getElem?_eq_some_iff.1 hk).1
 obtain ⟨QL, hQL⟩ : ∃ QL, QL = sq4 q := ⟨_, rfl⟩
 obtain ⟨YL, hYL⟩ : ∃ YL, YL = cv4 q := ⟨_, rfl⟩
 have L1 := qh (show QL.length = 28 by rw [hQL]; rfl)
 have L2 := qh (show YL.length = 8 by rw [hYL]; rfl)
 have O1 := qh (show QL.all Value.oneCell' = true by rw [hQL]; rfl)
 have O2 := qh (show YL.all Value.oneCell' = true by rw [hYL]; rfl)
 have PX : ∀ x, qd1 (some (n, q)) x → x = .tuple #[.agg QL.toArray, .agg YL.toArray, .bool true] := fun x hx => by rw [hQL, hYL]; exact hx
 obtain ⟨RR, hRR⟩ : ∃ RR : Value → Prop, RR = qd1 (some (n, q)) := ⟨_, rfl⟩
 rw [← hRR] at PX SQ
 obtain ⟨hw1, hw2, hw3, hw4, hw5, hw6⟩ := qa5 h0
 have CK : Hid (∀ m : Nat, m < 4 → ∃ G : SqD, [q.1, q.2.1, q.2.2.1, q.2.2.2][m]? = some G ∧ sqB G = true ∧ (∀ W, (Instr.index 141 (.agg QL.toArray) (.int .i64 (m : Int))).run prog W = .ok (.agg #[.bool G.left.neg, .string G.left.n, .int .i64 G.left.e, .bool G.low.neg, .string G.low.n, .int .i64 G.low.e, .int .i64 G.e]) W) ∧ YL[m * 2]? = some (.complex .f64 (qaj G).1.re (qaj G).1.im) ∧ YL[m * 2 + 1]? = some (.float .f64 (qaj G).1.r)) := by
  have hok : sqB q.1 = true ∧ sqB q.2.1 = true ∧ sqB q.2.2.1 = true ∧ sqB q.2.2.2 = true := by
   unfold qcD at hw6
   cases hp : qbp n.sq with
   | none => rw [hp] at hw6; cases hw6
   | some l =>
    obtain ⟨hl, hl2⟩ := qd2 (hS.nd k n hk).sq hp
    match l, hl with
    | [a, b, c, e], _ =>
     rw [hp] at hw6
     simp only at hw6
     split at hw6
     ·cases hw6; exact ⟨hl2 _ (by simp), hl2 _ (by simp), hl2 _ (by simp), hl2 _ (by simp)⟩
     ·cases hw6
  intro m hm
  rw [hQL, hYL]
  obtain ⟨q0, q1, q2, q3⟩ := q
  rcases (show m = 0 ∨ m = 1 ∨ m = 2 ∨ m = 3 by omega) with rfl | rfl | rfl | rfl
  ·exact ⟨q0, rfl, hok.1, fun W => by kernel_rfl, rfl, rfl⟩
  ·exact ⟨q1, rfl, hok.2.1, fun W => by kernel_rfl, rfl, rfl⟩
  ·exact ⟨q2, rfl, hok.2.2.1, fun W => by kernel_rfl, rfl, rfl⟩
  ·exact ⟨q3, rfl, hok.2.2.2, fun W => by kernel_rfl, rfl, rfl⟩
 have HM := qh hM
 have HS := qh hS
 have HK := qh hk
 have HU := qh hu
 have HPX := qh PX
 have HLT := qh hlt
 clear hM hS hk hT hu h0 hQL hYL hRR PX hlt hw1 hw2 hw3 hw4 hw5 hw6
 go_enter func34, ntmps34
 go_upto_region 1 with fail
 refine wp_region_list ?_
 refine wpList_plain rfl fun K hK => ?_
 go_step
 refine hK _ _ ?_
 clear hK K
 refine wpList_plain rfl fun K hK => ?_
 go_step
 refine hK _ _ ?_
 clear hK K
 refine wpList_plain rfl fun K hK => ?_
 go_step
 (with_reducible refine SQ.out.mono ?_)
 rintro e w2 ⟨x, rfl, hx, hk2⟩
 have HK2 := qh hk2
 clear hk2 SQ
 obtain rfl := HPX.out _ hx
 clear hx HPX
 refine hK _ _ ?_
 clear hK K
 refine wpList_plain rfl fun K hK => ?_
 go_step
 refine hK _ _ ?_
 clear hK K
 refine wpList_plain rfl fun K hK => ?_
 go_step
 refine hK _ _ ?_
 clear hK K
 refine wpList_plain rfl fun K hK => ?_
 go_step
 refine hK _ _ ?_
 clear hK K
 refine wpList_plain rfl fun K hK => ?_
 go_step
 refine hK _ _ ?_
 clear hK K
 refine wpList_plain rfl fun K hK => ?_
 go_step
 refine hK _ _ ?_
 clear hK K
 have K3 := qh (Kept.new HK2.out (.cells ZL2.toArray 141))
 have B0 := qh (Bx.new w2 ZL2 141 w2.heap.size rfl)
 have HG0 := qh (show w.heap.size ≤ w2.heap.size from HK2.out.size)
 obtain ⟨b, hb⟩ : ∃ b, b = w2.heap.size := ⟨_, rfl⟩
 rw [← hb] at B0 HG0 ⊢
 clear hb HK2
 generalize World.alloc w2 _ = w3 at *
 refine wpList_plain rfl fun K hK => ?_
 go_step
 refine hK _ _ ?_
 clear hK K
 have HBQ0 := qh B0.out.lt
 replace B0 := qh (B0.out.kept (Kept.new (Below.refl _ w3) (.cells ZL3.toArray 142)))
 have K4 := qh (Kept.new K3.out (.cells ZL3.toArray 142))
 have B1 := qh (Bx.new w3 ZL3 142 w3.heap.size rfl)
 have HG1 := qh (show w.heap.size ≤ w3.heap.size from K3.out.size)
 obtain ⟨c, hq⟩ : ∃ c, c = w3.heap.size := ⟨_, rfl⟩
 have HBQ := qh (show b ≠ c from by have := HBQ0.out; omega)
 rw [← hq] at B1 HG1 ⊢
 clear hq K3 HBQ0
 generalize World.alloc w3 _ = w4 at *
 refine wpList_plain rfl fun K hK => qaa (vs := QL) (b := b) (n := 28) _ _ rfl rfl rfl B0.out L1.out rfl (by kernel_rfl) O1.out (hK _ _ ?_)
 clear hK K
 replace B0 := qh (B0.out.row QL)
 replace B1 := qh (B1.out.off (g := b) (fun e => HBQ.out e.symm) QL)
 replace K4 := qh (Kept.row K4.out HG0.out QL)
 generalize World.setRow w4 _ _ = w5 at *
 refine wpList_plain rfl fun K hK => qaa (vs := YL) (b := c) (n := 8) _ _ rfl rfl rfl B1.out L2.out rfl (by kernel_rfl) O2.out (hK _ _ ?_)
 clear hK K
 replace B1 := qh (B1.out.row YL)
 replace B0 := qh (B0.out.off (g := c) HBQ.out YL)
 replace K4 := qh (Kept.row K4.out HG1.out YL)
 generalize World.setRow w5 _ _ = w6 at *
 go_upto_region 4 with fail
 refine wp_region_list ?_
 refine wpList_plain rfl fun K hK => ?_
 go_step
 refine hK _ _ ?_
 clear hK K
 have HCE0 := qh (show b < w6.heap.size ∧ c < w6.heap.size from ⟨B0.out.lt, B1.out.lt⟩)
 replace B0 := qh (B0.out.kept (Kept.new (Below.refl _ w6) (.cells #[.int .i64 0, .int .i64 0, .int .i64 0, .int .i64 0] 89)))
 replace B1 := qh (B1.out.kept (Kept.new (Below.refl _ w6) (.cells #[.int .i64 0, .int .i64 0, .int .i64 0, .int .i64 0] 89)))
 have B2 := qh (Bx.new w6 [.int .i64 0, .int .i64 0, .int .i64 0, .int .i64 0] 89 w6.heap.size rfl)
 have HG2 := qh (show w.heap.size ≤ w6.heap.size from K4.out.size)
 have K7 := qh (Kept.new K4.out (.cells #[.int .i64 0, .int .i64 0, .int .i64 0, .int .i64 0] 89))
 obtain ⟨e, he⟩ : ∃ e, e = w6.heap.size := ⟨_, rfl⟩
 rw [← he] at B2 HG2 HCE0 ⊢
 clear he K4
 generalize World.alloc w6 _ = w7 at *
 have B2Z := qh (show Bx w7 e (plV S.L.length 0) from B2.out)
 go_upto_region 5 with fail
 refine wp_region_list ?_
 refine wpList_plain rfl fun K hK => qai (vs := QL) (b := b) (n := 28) _ rfl rfl B0.out L1.out underlying141 rfl (by kernel_rfl) (hK _ _ ?_)
 clear hK K
 refine wpList_plain rfl fun K hK => ?_
 go_step
 refine hK _ _ ?_
 clear hK K
 go_wp2_with fail
 go_loopg [9, 10, 21] 4 (fun gh v9 v10 v21 wr => ∃ (m : Nat) (vm : Value), m + gh = 4 ∧ v21 = .int .i64 (m : Int) ∧ TrM wr base p vm u ⟨S.L ++ qbW u n q m, S.n⟩ ∧ Bx wr c YL ∧ Bx wr e (plV S.L.length m) ∧ Far (TrB p v) w wr ∧ (vm.ownBlock = v.ownBlock ∨ ∀ i, vm.ownBlock = some i → w.heap.size ≤ i) ∧ (∀ i, vm.ownBlock = some i → i ≠ c ∧ i ≠ e))
 case atStart =>
  refine ⟨0, v, by omega, rfl, ?_, B1.out, B2Z.out, Far.qcE K7.out, .inl rfl, fun i hi => ?_⟩
  ·have h1 := HM.out.kept K7.out
   have e1 : S.L ++ qbW u n q 0 = S.L := by unfold qbW; simp
   rw [e1]; exact h1
  ·have h1 := (HM.out.own.lt i hi).2
   have h2 := HG1.out
   have h3 := HG2.out
   constructor <;> omega
 case round =>
  clear B0 B1 B2 B2Z K7
  obtain ⟨m, vm, hmg, rfl, hM, b1, b2, hfar, hnew, hoff⟩ := hrel
  have HM2 := qh hM
  have B1 := qh b1
  have B2 := qh b2
  have HF := qh hfar
  have HN := qh hnew
  have HO := qh hoff
  clear hM b1 b2 hfar hnew hoff
  cases gk with
  | zero =>
   obtain rfl : m = 4 := by omega
   go_upto_region 11 with fail
   obtain ⟨g, off, cap, hvm, hbg, hgl, hgp, -, -⟩ := HM2.out.form (by show 0 < (S.L ++ _).length; have := HLT.out; rw [List.length_append]; omega)
   obtain ⟨N4, hN4⟩ : ∃ N4, N4 = (S.L ++ qbW u n q 4).length := ⟨_, rfl⟩
   have hlen : N4 = S.L.length + 4 := by rw [hN4, List.length_append, qfX u n q (Nat.le_refl 4)]
   have hown := HM2.out.own
   change Own wr base 13 vm (S.L ++ qbW u n q 4).length _ at hown
   have hvm2 : vm = .slice (some ⟨g, off, none⟩) N4 cap := by rw [hN4]; exact hvm
   rw [← hN4] at hown
   clear hvm
   subst hvm2
   have hkN : (k : Int) < (N4 : Int) := by have := HLT.out; omega
   have hcw : ∀ i, i < 4 → (∃ x, wr.cell? ⟨g, off + k * 13 + (9 + i), none⟩ = some x) ∧ wr.frozen? ⟨g, off + k * 13 + (9 + i), none⟩ = false := fun i hi => by
    have := hown.cells (j := k * 13 + (9 + i)) (by have := HLT.out; omega)
    rw [← Nat.add_assoc] at this
    exact this
   obtain ⟨⟨x0, c0⟩, f0⟩ := hcw 0 (by omega)
   obtain ⟨⟨x1, c1⟩, f1⟩ := hcw 1 (by omega)
   obtain ⟨⟨x2, c2⟩, f2⟩ := hcw 2 (by omega)
   obtain ⟨⟨x3, c3⟩, f3⟩ := hcw 3 (by omega)
   simp only [Nat.add_zero, Nat.reduceAdd] at c0 c1 c2 c3 f0 f1 f2 f3
   have p1 := HM2.out.box.c 1 rfl
   have e0 := B2.out.c 0 rfl
   have e1 := B2.out.c 1 rfl
   have e2 := B2.out.c 2 rfl
   have e3 := B2.out.c 3 rfl
   simp only [Nat.reduceLT, if_true, Nat.add_zero] at e0 e1 e2 e3
   have HOW := qh hown
   have HLE := qh hlen
   have HN4 := qh hN4
   clear hown hlen hN4 hcw
   have hS0 : (wr.drew.cell? ⟨p, 1, none⟩ = some (.slice (some ⟨g, off, none⟩) N4 cap)) ∧ wr.drew.cell? ⟨e, 0, none⟩ = some (.int .i64 (S.L.length : Nat)) ∧ wr.drew.cell? ⟨e, 1, none⟩ = some (.int .i64 (S.L.length + 1 : Nat)) ∧ wr.drew.cell? ⟨e, 2, none⟩ = some (.int .i64 (S.L.length + 2 : Nat)) ∧ wr.drew.cell? ⟨e, 3, none⟩ = some (.int .i64 (S.L.length + 3 : Nat)) := ⟨p1, e0, e1, e2, e3⟩
   have hfz : wr.drew.frozen? ⟨g, off + k * 13 + 9, none⟩ = false ∧ wr.drew.frozen? ⟨g, off + k * 13 + 10, none⟩ = false ∧ wr.drew.frozen? ⟨g, off + k * 13 + 11, none⟩ = false ∧ wr.drew.frozen? ⟨g, off + k * 13 + 12, none⟩ = false := ⟨f0, f1, f2, f3⟩
   have hcz : wr.drew.cell? ⟨g, off + k * 13 + 9, none⟩ = some x0 ∧ wr.drew.cell? ⟨g, off + k * 13 + 10, none⟩ = some x1 ∧ wr.drew.cell? ⟨g, off + k * 13 + 11, none⟩ = some x2 ∧ wr.drew.cell? ⟨g, off + k * 13 + 12, none⟩ = some x3 := ⟨c0, c1, c2, c3⟩
   obtain ⟨z0, z1, z2, z3⟩ := hcz
   obtain ⟨y0, y1, y2, y3⟩ := hfz
   refine qab (fun W => (W.cell? ⟨p, 1, none⟩ = some (.slice (some ⟨g, off, none⟩) N4 cap)) ∧ W.cell? ⟨e, 0, none⟩ = some (.int .i64 (S.L.length : Nat)) ∧ W.cell? ⟨e, 1, none⟩ = some (.int .i64 (S.L.length + 1 : Nat)) ∧ W.cell? ⟨e, 2, none⟩ = some (.int .i64 (S.L.length + 2 : Nat)) ∧ W.cell? ⟨e, 3, none⟩ = some (.int .i64 (S.L.length + 3 : Nat))) [8] (by kernel_rfl) ?_ (fun hHeld => ?_)
   ·assumption
   refine wS 0 61 ?_
   refine wS 1 62 ?_
   refine wS 2 63 ?_
   refine wS 3 64 ?_
   refine wS 4 65 ?_
   refine wS 5 66 ?_
   refine wS 6 67 ?_
   refine wS 7 68 ?_
   refine eS 8 fun K hK => ?_
   go_simp
   refine hK.out _ _ ?_
   clear hK K
   try simp only [Act.put, tdy]
   refine dS ?_ _
   have hj : ∀ i, i < 4 → k * 13 + (9 + i) < N4 * 13 := fun i hi => by have := HLT.out; have := HLE.out; omega
   have hk4 : (S.L ++ qbW u n q 4)[k]? = some n := by rw [List.getElem?_append_left HLT.out]; exact HK.out
   have h5 := (((HOW.out.put (hj 0 (by omega)) (.int .i64 (S.L.length : Nat))).put (hj 1 (by omega)) (.int .i64 (S.L.length + 1 : Nat))).put (hj 2 (by omega)) (.int .i64 (S.L.length + 2 : Nat))).put (hj 3 (by omega)) (.int .i64 (S.L.length + 3 : Nat))
   rw [qhF (S.L ++ qbW u n q 4) k n _ _ _ _ hk4] at h5
   have h6 : Own (((((wr.setCell ⟨g, off + k * 13 + 9, none⟩ (.int .i64 (S.L.length : Nat))).setCell ⟨g, off + k * 13 + 9 + 1, none⟩ (.int .i64 ((S.L.length : Nat) + 1))).setCell ⟨g, off + k * 13 + 9 + 2, none⟩ (.int .i64 ((S.L.length : Nat) + 2))).setCell ⟨g, off + k * 13 + 9 + 3, none⟩ (.int .i64 ((S.L.length : Nat) + 3))).drew) base 13 (.slice (some ⟨g, off, none⟩) N4 cap) N4 (qc7 (qak S.L k n q (qaD u))) := by rw [← qkF u S.L k n q HLT.out]; simp only [← Nat.add_assoc] at h5; exact h5
   have h7 : Bx (((((wr.setCell ⟨g, off + k * 13 + 9, none⟩ (.int .i64 (S.L.length : Nat))).setCell ⟨g, off + k * 13 + 9 + 1, none⟩ (.int .i64 ((S.L.length : Nat) + 1))).setCell ⟨g, off + k * 13 + 9 + 2, none⟩ (.int .i64 ((S.L.length : Nat) + 2))).setCell ⟨g, off + k * 13 + 9 + 3, none⟩ (.int .i64 ((S.L.length : Nat) + 3))).drew) p [.iface 31 (.agg (ruL u).toArray), .slice (some ⟨g, off, none⟩) N4 cap, .int .i64 (S.n : Int)] := (((HM2.out.box.far ⟨g, off + k * 13 + 9, none⟩ hgp.symm _).far ⟨g, off + k * 13 + 9 + 1, none⟩ hgp.symm _).far ⟨g, off + k * 13 + 9 + 2, none⟩ hgp.symm _).far ⟨g, off + k * 13 + 9 + 3, none⟩ hgp.symm _
   have hqg : g < w.heap.size → TrB p v g := fun hlt => by rcases HN.out with h | h; exact .inr (by rw [← h]; rfl); exact absurd (h g rfl) (by omega)
   have h8 : Far (TrB p v) w (((((wr.setCell ⟨g, off + k * 13 + 9, none⟩ (.int .i64 (S.L.length : Nat))).setCell ⟨g, off + k * 13 + 9 + 1, none⟩ (.int .i64 ((S.L.length : Nat) + 1))).setCell ⟨g, off + k * 13 + 9 + 2, none⟩ (.int .i64 ((S.L.length : Nat) + 2))).setCell ⟨g, off + k * 13 + 9 + 3, none⟩ (.int .i64 ((S.L.length : Nat) + 3))).drew) := ((((HF.out.set ⟨g, _, none⟩ _ hqg).set ⟨g, _, none⟩ _ hqg).set ⟨g, _, none⟩ _ hqg).set ⟨g, _, none⟩ _ hqg).drew
   generalize (((((wr.setCell ⟨g, off + k * 13 + 9, none⟩ (.int .i64 (S.L.length : Nat))).setCell ⟨g, off + k * 13 + 9 + 1, none⟩ (.int .i64 ((S.L.length : Nat) + 1))).setCell ⟨g, off + k * 13 + 9 + 2, none⟩ (.int .i64 ((S.L.length : Nat) + 2))).setCell ⟨g, off + k * 13 + 9 + 3, none⟩ (.int .i64 ((S.L.length : Nat) + 3))).drew) = w8 at h6 h7 h8 ⊢
   clear z0 z1 z2 z3 y0 y1 y2 y3 c0 c1 c2 c3 f0 f1 f2 f3 p1 e0 e1 e2 e3 h5
   have H6 := qh h6
   have H7 := qh h7
   have H8 := qh h8
   have hfew := HS.out.few
   have ew : IntKind.i64.wrap ((S.n : Int) + 3) = ((S.n + 3 : Nat) : Int) := by rw [IntWalk.i64_in _ (by omega)]; omega
   clear h6 h7 h8 hfew hj hk4 hqg
   have l2 := H7.out.c 2 rfl
   have m2 := H7.out.f 2
   go_wp2_with fail
   exact bodyPost_ret (v := .bool true) (by simp [results, results34, go_sem]) rfl ⟨_, rfl, ⟨H7.out.set 2 _ (by simp), by show Own _ base 13 _ (qak S.L k n q (qaD u)).length _; rw [qat, ← HLE.out]; exact H6.out.far (fun i hi => by cases hi; exact hgp) _, HM.out.ge, fun i hi => by cases hi; exact hgp⟩, H8.out.set ⟨p, 2, none⟩ _ (fun _ => .inl rfl), HN.out⟩
  | succ gm =>
   obtain ⟨G, hG, hGok, hidx, hy0, hy1⟩ := CK.out m (by omega)
   obtain ⟨⟨g0, g1, g2⟩, ⟨g3, g4, g5⟩, g6⟩ := G
   simp only at hidx hy0 hy1
   have hm4 : (m : Int) < 4 := by omega
   have hm0 : (0 : Int) ≤ (m : Int) := by omega
   have HGG := qh hG
   have HGO := qh hGok
   have HY0 := qh hy0
   have HY1 := qh hy1
   clear hy0 hy1 hG hGok
   go_upto_region 7 with fail
   refine wp_region_list ?_
   refine wpList_plain rfl fun K hK => ?_
   go_step
   refine hK _ _ ?_
   clear hK K
   refine wpList_plain rfl fun K hK => ?_
   go_step
   refine hK _ _ ?_
   clear hK K
   refine wpList_plain rfl fun K hK => ?_
   go_step
   refine hK _ _ ?_
   clear hK K
   have HGW := qh (fun i hi => (HM2.out.own.lt i hi).2)
   have HQR := qh (show c < wr.heap.size ∧ e < wr.heap.size from ⟨B1.out.lt, B2.out.lt⟩)
   have KW := qh (Kept.new (Below.refl _ wr) (.cells ZL4.toArray 26))
   have B3 := qh (Bx.new wr ZL4 26 wr.heap.size rfl)
   obtain ⟨y, hy⟩ : ∃ y, y = wr.heap.size := ⟨_, rfl⟩
   have HY := qh (show wr.heap.size ≤ y by omega)
   rw [← hy] at B3 ⊢
   clear hy hidx
   generalize World.alloc wr _ = w11 at *
   refine wpList_plain rfl fun K hK => ?_
   go_step
   refine hK _ _ ?_
   clear hK K
   refine wpList_plain rfl fun K hK => qaa (vs := (LC3 g0 g1 g2 g3 g4 g5 g6)) (b := y) (n := 7) _ _ rfl rfl rfl B3.out rfl rfl (by kernel_rfl) rfl (hK _ _ ?_)
   clear hK K
   replace B3 := qh (B3.out.row (LC3 g0 g1 g2 g3 g4 g5 g6))
   replace KW := qh (Kept.row KW.out HY.out (LC3 g0 g1 g2 g3 g4 g5 g6))
   generalize World.setRow w11 _ _ = w12 at *
   replace HM2 := qh (HM2.out.kept KW.out)
   replace B1 := qh (B1.out.kept KW.out)
   replace B2 := qh (B2.out.kept KW.out)
   replace HF := qh (HF.out.then KW.out)
   go_upto_region 8 with fail
   obtain ⟨g, off, cap, hvm, hbg, hgl, hgp, hcell, -⟩ := HM2.out.form (by show 0 < (S.L ++ _).length; have := HLT.out; rw [List.length_append]; omega)
   obtain ⟨N4, hN4⟩ : ∃ N4, N4 = (S.L ++ qbW u n q m).length := ⟨_, rfl⟩
   have hlen : N4 = S.L.length + m := by rw [hN4, List.length_append, qfX u n q (by omega)]
   have hvm2 : vm = .slice (some ⟨g, off, none⟩) N4 cap := by rw [hN4]; exact hvm
   clear hvm
   subst hvm2
   have p1 := HM2.out.box.c 1 rfl
   have e0 := B2.out.c m (show (plV S.L.length m)[m]? = some (.int .i64 0) by rcases (show m = 0 ∨ m = 1 ∨ m = 2 ∨ m = 3 by omega) with rfl | rfl | rfl | rfl <;> rfl)
   have f0 := B2.out.f m
   have HCELL := qh hcell
   have HLE := qh hlen
   have HN4 := qh hN4
   clear hlen hN4 hcell
   go_upto_region 9 with fail
   have hpe : p ≠ e := by have h1 := HM.out.box.lt; have h2 := HG2.out; omega
   have hge : g ≠ e := (HO.out g rfl).2
   have hye : y ≠ e := by have h1 := HQR.out; have h2 := HY.out; omega
   have hce : c ≠ e := by have h1 := HCE0.out; omega
   have HM3 := qh (HM2.out.to (s := fun i => i = e) (Far.set (Far.refl _ w12) ⟨e, m, none⟩ (.int .i64 (N4 : Int)) (fun _ => rfl)) (fun i hi => by rcases hi with rfl | hi; exact hpe; cases hi; exact hge))
   have B1n := qh (B1.out.far ⟨e, m, none⟩ hce (.int .i64 (N4 : Int)))
   have B3n := qh (B3.out.far ⟨e, m, none⟩ hye (.int .i64 (N4 : Int)))
   have B2n := qh (B2.out.set m (.int .i64 (N4 : Int)) (by show m < 4; omega))
   have HFn := qh (HF.out.set ⟨e, m, none⟩ (.int .i64 (N4 : Int)) (fun h => absurd h (by have := HG2.out; show ¬ e < _; omega)))
   generalize w12.setCell ⟨e, m, none⟩ (.int .i64 (N4 : Int)) = w14 at *
   clear e0 f0 p1 HM2 B1 B2 B3 HF
   have hd : w14.cell? ⟨g, off + k * 13 + 8, none⟩ = some (.int .i64 (n.depth : Int)) := by
    obtain ⟨g2, off2, cap2, hv, -, -, -, hc2, -⟩ := HM3.out.form (by show 0 < (S.L ++ _).length; have := HLT.out; rw [List.length_append]; omega)
    injection hv with h1 _ _
    injection h1 with h1
    injection h1 with h1 h2
    subst h1; subst h2
    rw [Nat.add_assoc]
    exact hc2 k n 8 _ (by show (S.L ++ _)[k]? = _; rw [List.getElem?_append_left HLT.out]; exact HK.out) rfl
   have p0 := HM3.out.box.c 0 rfl
   have p1 := HM3.out.box.c 1 rfl
   have d0 := B1n.out.c _ HY0.out
   have d1 := B1n.out.c _ HY1.out
   obtain ⟨y0, y1, y2, y3, y4, y5, y6⟩ := B3n.out.c7
   have hkN : (k : Int) < (N4 : Int) := by have := HLT.out; have := HLE.out; omega
   have hlt3 := qhu HGO.out
   have ASK := qh (fun W => qk8 u HU.out _ _ _ hlt3.1 hlt3.2.1 hlt3.2.2 W)
   have HTT := qh (show qaD u ⟨⟨g0, g1, g2⟩, ⟨g3, g4, g5⟩, g6⟩ = qfK u (qaj ⟨⟨g0, g1, g2⟩, ⟨g3, g4, g5⟩, g6⟩).1.re (qaj ⟨⟨g0, g1, g2⟩, ⟨g3, g4, g5⟩, g6⟩).1.im (qaj ⟨⟨g0, g1, g2⟩, ⟨g3, g4, g5⟩, g6⟩).1.r from rfl)
   have ew : IntKind.i64.wrap ((n.depth : Int) + 1) = ((n.depth + 1 : Nat) : Int) := by
    have := (HS.out.nd k n HK.out).depth
    rw [IntWalk.i64_in _ (by omega)]; omega
   clear hlt3
   generalize qfK u (qaj ⟨⟨g0, g1, g2⟩, ⟨g3, g4, g5⟩, g6⟩).1.re (qaj ⟨⟨g0, g1, g2⟩, ⟨g3, g4, g5⟩, g6⟩).1.im (qaj ⟨⟨g0, g1, g2⟩, ⟨g3, g4, g5⟩, g6⟩).1.r = tt at ASK HTT
   generalize (qaj ⟨⟨g0, g1, g2⟩, ⟨g3, g4, g5⟩, g6⟩).1.re = b0 at *
   generalize (qaj ⟨⟨g0, g1, g2⟩, ⟨g3, g4, g5⟩, g6⟩).1.im = b1 at *
   generalize (qaj ⟨⟨g0, g1, g2⟩, ⟨g3, g4, g5⟩, g6⟩).1.r = b2 at *
   obtain ⟨dd, hdd⟩ : ∃ dd, dd = n.depth := ⟨_, rfl⟩
   rw [← hdd] at hd ew
   have HDD := qh hdd
   clear hdd
   have hS0 : ((w14.drew.cell? ⟨p, 0, none⟩ = some (.iface 31 (.agg (ruL u).toArray))) ∧ w14.drew.cell? ⟨p, 1, none⟩ = some (.slice (some ⟨g, off, none⟩) N4 cap)) ∧ (w14.drew.cell? ⟨y, 0, none⟩ = some (.bool g0) ∧ w14.drew.cell? ⟨y, 1, none⟩ = some (.string g1) ∧ w14.drew.cell? ⟨y, 2, none⟩ = some (.int .i64 g2) ∧ w14.drew.cell? ⟨y, 3, none⟩ = some (.bool g3) ∧ w14.drew.cell? ⟨y, 4, none⟩ = some (.string g4) ∧ w14.drew.cell? ⟨y, 5, none⟩ = some (.int .i64 g5) ∧ w14.drew.cell? ⟨y, 6, none⟩ = some (.int .i64 g6)) ∧ (w14.drew.cell? ⟨c, m * 2, none⟩ = some (.complex .f64 b0 b1) ∧ w14.drew.cell? ⟨c, m * 2 + 1, none⟩ = some (.float .f64 b2)) ∧ w14.drew.cell? ⟨g, off + k * 13 + 8, none⟩ = some (.int .i64 (dd : Int)) := ⟨⟨p0, p1⟩, ⟨y0, y1, y2, y3, y4, y5, y6⟩, ⟨d0, d1⟩, hd⟩
   have HOWN : Hid (Own w14 base 13 (.slice (some ⟨g, off, none⟩) N4 cap) N4 (qc7 (S.L ++ qbW u n q m))) := by
    have h := HM3.out.own
    change Own w14 base 13 _ (S.L ++ qbW u n q m).length _ at h
    rw [← HN4.out] at h
    exact h
   have SK : Hid (∀ W, Kept w14 W → ((W.cell? ⟨p, 0, none⟩ = some (.iface 31 (.agg (ruL u).toArray))) ∧ W.cell? ⟨p, 1, none⟩ = some (.slice (some ⟨g, off, none⟩) N4 cap)) ∧ (W.cell? ⟨y, 0, none⟩ = some (.bool g0) ∧ W.cell? ⟨y, 1, none⟩ = some (.string g1) ∧ W.cell? ⟨y, 2, none⟩ = some (.int .i64 g2) ∧ W.cell? ⟨y, 3, none⟩ = some (.bool g3) ∧ W.cell? ⟨y, 4, none⟩ = some (.string g4) ∧ W.cell? ⟨y, 5, none⟩ = some (.int .i64 g5) ∧ W.cell? ⟨y, 6, none⟩ = some (.int .i64 g6)) ∧ (W.cell? ⟨c, m * 2, none⟩ = some (.complex .f64 b0 b1) ∧ W.cell? ⟨c, m * 2 + 1, none⟩ = some (.float .f64 b2)) ∧ W.cell? ⟨g, off + k * 13 + 8, none⟩ = some (.int .i64 (dd : Int))) := fun W h => ⟨⟨(HM3.out.box.kept h).c 0 rfl, (HM3.out.box.kept h).c 1 rfl⟩, (B3n.out.kept h).c7, ⟨(B1n.out.kept h).c _ HY0.out, (B1n.out.kept h).c _ HY1.out⟩, (h.cells _ _ (lt_of_cell hd)).trans hd⟩
   refine qab (fun W => ((W.cell? ⟨p, 0, none⟩ = some (.iface 31 (.agg (ruL u).toArray))) ∧ W.cell? ⟨p, 1, none⟩ = some (.slice (some ⟨g, off, none⟩) N4 cap)) ∧ (W.cell? ⟨y, 0, none⟩ = some (.bool g0) ∧ W.cell? ⟨y, 1, none⟩ = some (.string g1) ∧ W.cell? ⟨y, 2, none⟩ = some (.int .i64 g2) ∧ W.cell? ⟨y, 3, none⟩ = some (.bool g3) ∧ W.cell? ⟨y, 4, none⟩ = some (.string g4) ∧ W.cell? ⟨y, 5, none⟩ = some (.int .i64 g5) ∧ W.cell? ⟨y, 6, none⟩ = some (.int .i64 g6)) ∧ (W.cell? ⟨c, m * 2, none⟩ = some (.complex .f64 b0 b1) ∧ W.cell? ⟨c, m * 2 + 1, none⟩ = some (.float .f64 b2)) ∧ W.cell? ⟨g, off + k * 13 + 8, none⟩ = some (.int .i64 (dd : Int))) [28] (by kernel_rfl) ?_ (fun hHeld => ?_)
   ·(first | assumption | exact SK.out _ (K15.out.trans' (Kept.new (Below.refl _ _) _)))
   refine wS 0 32 ?_
   refine wS 1 33 ?_
   refine wS 2 34 ?_
   refine wS 3 35 ?_
   refine wS 4 36 ?_
   refine wS 5 37 ?_
   refine wS 6 38 ?_
   refine wS 7 39 ?_
   refine wS 8 40 ?_
   refine wS 9 41 ?_
   refine wS 10 42 ?_
   refine wS 11 43 ?_
   refine wS 12 44 ?_
   refine wS 14 46 ?_
   refine wS 15 47 ?_
   refine wS 16 48 ?_
   refine wS 17 49 ?_
   refine wS 18 50 ?_
   refine wS 19 51 ?_
   refine wS 20 52 ?_
   refine wS 21 53 ?_
   refine wS 22 54 ?_
   refine oS 13 fun K hK => ?_
   go_simp
   (refine (ASK.out _).mono ?_; rintro en w15 ⟨rfl, hk15⟩; have K15 : Hid (Kept w14 w15) := qh ((Below.refl _ w14).drew.trans (hk15.mono (Nat.le_refl _))); have hS15 := SK.out w15 K15.out)
   refine hK.out _ _ ?_ (fun hHeld => ?_)
   ·(first | assumption | exact SK.out _ (K15.out.trans' (Kept.new (Below.refl _ _) _)))
   clear hK K
   try simp only [Act.put, tdy]
   refine wS 23 55 ?_
   refine oS 24 fun K hK => ?_
   go_simp
   refine hK.out _ _ ?_ (fun hHeld => ?_)
   ·(first | assumption | exact SK.out _ (K15.out.trans' (Kept.new (Below.refl _ _) _)))
   clear hK K
   try simp only [Act.put, tdy]
   have hl15 : w14.heap.size ≤ w15.heap.size := K15.out.size
   refine qdC (i := 25) (by kernel_rfl) rfl (fun K hK => ?_)
   obtain ⟨i0, hi, hi0, hi1, hi2⟩ := info_parts qk9
   refine qfh _ rfl _ _ 92 rfl base 91 i0 (.agg #[.bool false, .string ⟨#[]⟩, .int .i64 0, .bool false, .string ⟨#[]⟩, .int .i64 0, .int .i64 0, .int .u8 0, .int .i64 0, .int .i64 0, .int .i64 0, .int .i64 0, .int .i64 0]) 13 120 underlying92 hi hi0 hi1 hi2 rfl (by decide) (.slice (some ⟨g, off, none⟩) N4 cap) N4 (qc7 (S.L ++ qbW u n q m)) rfl ((HOWN.out.kept K15.out).alloc _) (some ⟨w15.heap.size, 0, none⟩) 1 1 (ndV ⟨⟨⟨g0, g1, g2⟩, ⟨g3, g4, g5⟩, g6⟩, tt, dd + 1, none⟩) rfl rfl (Row.qbA _ _ _ _ _ _ rfl rfl) (by rw [← qiZ]; exact qfw _) (by have := HS.out.len; have := HLE.out; unfold maxLen; omega) (by have := HS.out.len; have := HLE.out; omega) (by have := (HOWN.out.lt g rfl); have := hl15; simp; omega) ?_
   intro v6 w6 hown6 hg6 hv6 hold6
   obtain ⟨A6, c6, rfl, -, -, -, -, -⟩ := hown6.form
   have hKX := K15.out.trans' (Kept.new (Below.refl _ w15) (.cells (ndV ⟨⟨⟨g0, g1, g2⟩, ⟨g3, g4, g5⟩, g6⟩, tt, dd + 1, none⟩).toArray 91))
   have hgy : y ≠ g := by have := HGW.out g rfl; have := HY.out; omega
   have hgc : c ≠ g := fun e => (HO.out g rfl).1 e.symm
   have BP6 := ((HM3.out.box.kept hKX).grown (q := g) hg6 hgp.symm)
   have BY6 := ((B3n.out.kept hKX).grown (q := g) hg6 hgy)
   have BC6 := ((B1n.out.kept hKX).grown (q := g) hg6 hgc)
   have q1 := BP6.c 1 rfl
   have r1 := BP6.f 1
   have hd6 : w6.cell? ⟨g, off + k * 13 + 8, none⟩ = some (.int .i64 (dd : Int)) := by (rw [Nat.add_assoc, HDD.out]); exact hold6.at_ ((qg9 _ k n 8 (by rw [List.getElem?_append_left HLT.out]; exact HK.out) (by omega)).trans rfl)
   have hS6 : ((w6.cell? ⟨p, 0, none⟩ = some (.iface 31 (.agg (ruL u).toArray))) ∧ w6.cell? ⟨p, 1, none⟩ = some (.slice (some ⟨g, off, none⟩) N4 cap)) ∧ (w6.cell? ⟨y, 0, none⟩ = some (.bool g0) ∧ w6.cell? ⟨y, 1, none⟩ = some (.string g1) ∧ w6.cell? ⟨y, 2, none⟩ = some (.int .i64 g2) ∧ w6.cell? ⟨y, 3, none⟩ = some (.bool g3) ∧ w6.cell? ⟨y, 4, none⟩ = some (.string g4) ∧ w6.cell? ⟨y, 5, none⟩ = some (.int .i64 g5) ∧ w6.cell? ⟨y, 6, none⟩ = some (.int .i64 g6)) ∧ (w6.cell? ⟨c, m * 2, none⟩ = some (.complex .f64 b0 b1) ∧ w6.cell? ⟨c, m * 2 + 1, none⟩ = some (.float .f64 b2)) ∧ w6.cell? ⟨g, off + k * 13 + 8, none⟩ = some (.int .i64 (dd : Int)) := ⟨⟨BP6.c 0 rfl, q1⟩, BY6.c7, ⟨BC6.c _ HY0.out, BC6.c _ HY1.out⟩, hd6⟩
   refine hK.out _ _ hS6 (fun hHeld => ?_)
   clear hK K
   try simp only [Act.put, tdy]
   refine wS 26 58 ?_
   refine wS 27 59 ?_
   refine eS 28 fun K hK => ?_
   go_simp
   refine hK.out _ _ ?_
   clear hK K
   try simp only [Act.put, tdy]
   refine dS ?_ _
   have hsz6 : w14.heap.size < w6.heap.size := by (have h1 := hg6.size; simp at h1; omega)
   have hgw : g < w14.heap.size := (HOWN.out.lt g rfl).2
   have hnw : ∀ i, (Value.slice A6 (N4 + 1) c6).ownBlock = some i → i = g ∨ w14.heap.size < i := fun i hi => hv6.elim (fun h => .inl (by rw [h] at hi; exact (Option.some.inj hi).symm)) (fun h => .inr (by have h2 := h i hi; simp at h2; omega))
   have hpw := HM3.out.box.lt
   have hcw := B1n.out.lt
   have heww := B2n.out.lt
   have h6p : ∀ i, (Value.slice A6 (N4 + 1) c6).ownBlock = some i → i ≠ p := fun i hi => by (rcases hnw i hi with rfl | h; exact hgp; omega)
   have h6c : ∀ i, (Value.slice A6 (N4 + 1) c6).ownBlock = some i → i ≠ c ∧ i ≠ e := fun i hi => by (rcases hnw i hi with rfl | h; exact HO.out _ rfl; constructor <;> omega)
   have hll : qc7 (S.L ++ qbW u n q m) ++ ndV ⟨⟨⟨g0, g1, g2⟩, ⟨g3, g4, g5⟩, g6⟩, tt, dd + 1, none⟩ = qc7 (S.L ++ qbW u n q (m + 1)) := by (rw [qkz u n q HGG.out, HTT.out, ← List.append_assoc, qf4 (S.L ++ qbW u n q m), qiZ]; rw [HDD.out]; rfl)
   rw [hll] at hown6
   have hlen6 : N4 + 1 = (S.L ++ qbW u n q (m + 1)).length := by (rw [List.length_append, qfX u n q (by omega)]; have := HLE.out; omega)
   have hqg : g < w.heap.size → TrB p v g := fun hlt => by (rcases HN.out with h | h; exact .inr (by rw [← h]; rfl); exact absurd (h g rfl) (by omega))
   have HM7 := qh (show TrM (w6.setCell ⟨p, 1, none⟩ (.slice A6 (N4 + 1) c6)) base p (.slice A6 (N4 + 1) c6) u ⟨S.L ++ qbW u n q (m + 1), S.n⟩ from ⟨BP6.set 1 _ (by simp), by (show Own _ base 13 _ (S.L ++ qbW u n q (m + 1)).length _; rw [← hlen6]; exact hown6.far h6p _), HM.out.ge, h6p⟩)
   have B17 := qh (BC6.far ⟨p, 1, none⟩ (by (have h1 := HM.out.box.lt; have h2 := HG1.out; show c ≠ p; omega)) (.slice A6 (N4 + 1) c6))
   have B27 := qh ((show Bx _ e (plV S.L.length (m + 1)) by (rw [qmT _ (by omega), ← HLE.out]; exact ((B2n.out.kept hKX).grown (q := g) hg6 hge.symm))).far ⟨p, 1, none⟩ hpe.symm (.slice A6 (N4 + 1) c6))
   have HF7 := qh (((HFn.out.then hKX).trans (Far.qjy (s := fun i => i = g) hg6 (fun i hi => (Option.some.inj hi).symm)) (fun i hi e => by (subst e; exact hqg hi))).set ⟨p, 1, none⟩ (.slice A6 (N4 + 1) c6) (fun _ => .inl rfl))
   have HN7 : Hid ((Value.slice A6 (N4 + 1) c6).ownBlock = v.ownBlock ∨ ∀ i, (Value.slice A6 (N4 + 1) c6).ownBlock = some i → w.heap.size ≤ i) := qh (hv6.elim (fun h => by rw [h]; exact HN.out) (fun h => .inr fun i hi => by have h1 := h i hi; have h2 := HFn.out.size; simp at h1; omega))
   have HO7 := qh h6c
   clear hsz6 hgw hnw hpw hcw heww h6p h6c hll hown6 hlen6 hqg BP6 BY6 BC6 hold6 hg6 hv6 hKX hS6 hHeld hl15 hgy hgc q1 r1 hd6
   generalize w6.setCell ⟨p, 1, none⟩ (.slice A6 (N4 + 1) c6) = w7 at *
   go_wp2_with fail
   go_roundg gm
   case measure => omega
   case rel => exact ⟨m + 1, _, by omega, by go_num, HM7.out, B17.out, B27.out, HF7.out, HN7.out, HO7.out⟩
end
def encI (k : Nat) : Array Value := #[.int .i64 (k : Int)]
def qa1 (l : List Nat) : List Value := l.map fun (k : Nat) => .int .i64 (k : Int)
theorem qdj (l m : List Nat) : qa1 (l ++ m) = qa1 l ++ qa1 m := by simp [qa1]
theorem qfn : (prog.info? 3).map (fun i => (i.zero, i.size, i.bytes)) = some (some (.int .i64 0), 1, 8) := by kernel_rfl
theorem qil (l : List Nat) : (qa1 l).length = l.length := by simp [qa1]
set_option maxRecDepth 100000 in
set_option maxHeartbeats 6400000 in
theorem qnz (m : Nat) (hm1 : 1 ≤ m) {w : World} {base p Bc : Nat} {v : Value} {u : RuD} {S : StD} (hM : TrM w base p v u S) (hS : GoodS S) (hW0 : Whole S) (hb : Bx w Bc [.pointer (some ⟨p, 0, none⟩)])
  {B0 : Nat} {U : World → Nat → Prop} (hU : qiC B0 U) (hUT : ∀ W k, k = Bc ∨ TrB p v k → ¬ U W k) :
  qkS Fence.wide m prog 131 #[.pointer (some ⟨Bc, 0, none⟩)] encI U (fun pre k _ => ∃ t, qa3 S = pre ++ k :: t) (fun xs => xs = qa3 S) (fun pre => ∃ t, qa3 S = pre ++ t) (qa3 S).length w := by
 intro l J Jx W hW hJ hJx hlt hY h0
 have hTc : ∀ k, k = Bc ∨ TrB p v k → k < w.heap.size ∧ ∃ o, w.heap[k]? = some o ∧ o.isCells = true := by
  rintro k (rfl | hk)
  ·exact ⟨hb.lt, cells_of_cell (hb.c 0 rfl)⟩
  ·exact hM.cellsB hS.pos k hk
 have HT := qh (fun k hk => (hTc k hk).1)
 have HC := qh (fun k hk => (hTc k hk).2)
 have HSM := qh (show Same (fun k => k = Bc ∨ TrB p v k) w W from ⟨hW.size, fun k hk => hW.block k (hTc k hk).1⟩)
 have HM := qh hM
 have HB := qh hb
 have c0 := (hb.same HSM.out (.inl rfl)).c 0 rfl
 have NN := qh (fun W h => qb7 (w := W) (hM.same (T := fun k => k = Bc ∨ TrB p v k) h (fun k hk => .inr hk)) hS)
 have HS := qh hS
 have HP0 := qh (qb8.start hW0)
 have HLN := qh hW0.qgs
 have HA := qh (show At W.heap.size U (J []) W W from ⟨h0, fun _ h => h, Nat.le_refl _, hlt _ _ h0⟩)
 have HWB := qh hW.size
 clear hTc hM hS hW0 hb hW h0
 refine callsIn_of_wp func131 rfl trivial ?_ rfl
 simp only [ntmps131, List.size_toArray, List.length_cons, List.length_nil, Nat.reduceAdd, Nat.reduceSub, Array.replicate_succ, Array.replicate_zero, List.push_toArray, List.append_toArray, List.nil_append, List.cons_append]
 gi_wp2
 refine ⟨trivial, (callsIn_wide.2 (NN.out W HSM.out)).mono ?_⟩
 rintro e w1 ⟨rfl, h1⟩
 replace h1 := h1.symm
 subst h1
 clear c0
 have KA := Kept.new (Below.refl _ W) (.cells #[.int .i64 0] 3)
 have HO0 := qh (Own.new W #[.int .i64 0] 3 (0, 0) 1 1 [.int .i64 0] W.heap.size W.heap.size rfl (Nat.le_refl _) (by decide) rfl rfl (.inr rfl))
 have HSM1 := qh (HSM.out.kept KA HT.out)
 have HA1 := qh (HA.out.kept hJ hU hlt KA)
 have HNU := qh (show ¬ U W W.heap.size from fun e => by have := hlt _ _ HA.out.inv _ e; omega)
 gi_wp2_with fail
 clear KA HA HSM
 generalize W.alloc _ = wa at *
 obtain ⟨B, hB⟩ : ∃ B, B = W.heap.size := ⟨_, rfl⟩
 rw [← hB] at hJ hJx HA1 HO0 HNU HWB ⊢
 clear hB
 gi_loopg [3] (S.L.length + 1) (fun gh s3 wr => ∃ (ks done R : List Nat) (vp : Value) (W0 : World), R.length < gh ∧ s3 = vp ∧ qb8 S ks done R ∧ Own wr B 1 vp ks.length (qa1 ks.reverse) ∧ Same (fun k => k = Bc ∨ TrB p v k) w wr ∧ At B U (J (done.filter (qbi S.L))) W0 wr ∧ ∀ k, vp.ownBlock = some k → ¬ U W0 k)
 case atStart => exact ⟨[0], [], _, _, W, by have := HLN.out; omega, rfl, HP0.out, HO0.out, HSM1.out, HA1.out, fun k hk => by cases hk; exact HNU.out⟩
 case round =>
  clear HO0 HSM1 HA1 HNU HP0
  obtain ⟨ks, done, R, vp, W0, hgh, rfl, hp, hown, hsm, hat, hnu⟩ := hrel
  have HP := qh hp
  have HO := qh hown
  have HSM := qh hsm
  have HA := qh hat
  have HNU := qh hnu
  clear hp hown hsm hat hnu
  cases ks with
  | nil =>
   obtain ⟨A1, c1, hv1, -, -, -, -, -⟩ := HO.out.form
   simp only [List.length_nil] at hv1
   obtain ⟨he, rfl⟩ := HP.out.end_
   rw [he] at HA
   clear HNU HO
   subst hv1
   gi_wp2_with fail
   go_end0
   exact ⟨⟨_, rfl⟩, .inl ⟨_, rfl, HA.out.inv⟩⟩
  | cons k ks =>
   obtain ⟨n, R', hk, rfl, hnext⟩ := HP.out.next
   have hown := HO.out
   rcases hown.2 with ⟨-, h0⟩ | ⟨g, off, cap, rfl, hbg, hgl, hnc, hcm, hx, hc⟩
   ·simp at h0
   have hck := hx ks.length (.int .i64 (k : Int)) (by simp [qa1])
   have hO2 := hown.front (k := ks.length) (by simp)
   have hle := HP.out.pile.le
   have hall := HP.out.all
   have hbnd : ks.length ≤ 87381 := by
    have h1 := HLN.out
    rw [hall] at h1
    have h2 := HS.out.len
    simp only [List.length_append, List.length_cons] at h1 hle
    omega
   have HO2 : Hid (Own wr B 1 (.slice (some ⟨g, off, none⟩) ks.length cap) ks.length (qa1 ks.reverse)) := by
    have e : (qa1 (k :: ks).reverse).take (ks.length * 1) = qa1 ks.reverse := by
     simp [qa1, List.take_append]
    rw [e] at hO2
    exact qh hO2
   clear hown hx hc hO2 HO
   have HBN := qh hbnd
   have HNX := qh hnext
   have HKN := qh hk
   have HRL := qh (show R'.length + 1 < gk from by simpa using hgh)
   have HNU2 := qh (show ¬ U W0 g from HNU.out g rfl)
   simp only [List.length_cons] at hnc ⊢
   obtain ⟨nm, hnm⟩ : ∃ nm, nm = ks.length := ⟨_, rfl⟩
   rw [← hnm] at hck hbnd hnc HO2 HBN ⊢
   have HNM := qh hnm
   have ew : IntKind.i64.wrap (((nm + 1 : Nat) : Int) - 1) = (nm : Int) := by rw [IntWalk.i64_in _ (by omega)]; omega
   have ew2 : IntKind.i64.wrap ((nm : Int) + 1 - 1) = (nm : Int) := by rw [IntWalk.i64_in _ (by omega)]; omega
   have ew0 : IntKind.i64.wrap (nm : Int) = (nm : Int) := by rw [IntWalk.i64_in _ (by omega)]
   have hnc2 : nm ≤ cap := by omega
   have hpos : (0 : Int) < ((nm + 1 : Nat) : Int) := by omega
   have hidx : (nm : Int) < ((nm + 1 : Nat) : Int) := by omega
   clear hnm hnext hk hle hall hbnd hgh HNU
   gi_upto_region 5 with fail
   have TM := HM.out.same HSM.out (fun k hk => .inr hk)
   obtain ⟨gt, ot, ct, hv, -, hgt, -, hcell, -⟩ := TM.form HS.out.pos
   have HCL := qh (fun i y hy => show wr.cell? ⟨gt, ot + k * 13 + i, none⟩ = some y by rw [Nat.add_assoc]; exact hcell k n i y HKN.out hy)
   have b0 := (HB.out.same HSM.out (.inl rfl)).c 0 rfl
   have p1 := TM.box.c 1 rfl
   rw [hv] at p1
   have hkl : (k : Int) < ((S.L.length : Nat) : Int) := by have := (List.getElem?_eq_some_iff.1 HKN.out).1; omega
   have hk0 : (0 : Int) ≤ (k : Int) := by omega
   have HVT := qh hv
   clear hv TM hcell
   generalize S.L.length = LN at hkl p1
   refine wpIn_region_list ?_
   refine wpListIn_plain rfl fun K hK => ?_
   refine qbg (fun c h => by cases h) ?_
   go_step
   refine hK _ _ ?_
   clear hK K
   refine wpListIn_plain rfl fun K hK => ?_
   refine qbg (fun c h => by cases h) ?_
   go_step
   refine hK _ _ ?_
   clear hK K
   refine wpListIn_plain rfl fun K hK => ?_
   refine qbg (fun c h => by cases h) ?_
   go_step
   refine hK _ _ ?_
   clear hK K
   refine wpListIn_plain rfl fun K hK => ?_
   refine qbg (fun c h => by cases h) ?_
   go_step
   refine hK _ _ ?_
   clear hK K
   refine wpListIn_plain rfl fun K hK => ?_
   refine qbg (fun c h => by cases h) ?_
   go_step
   refine hK _ _ ?_
   clear hK K
   refine wpListIn_plain rfl fun K hK => ?_
   refine qbg (fun c h => by cases h) ?_
   go_step
   refine hK _ _ ?_
   clear hK K
   refine wpListIn_plain rfl fun K hK => qbg (fun c h => by cases h) (qav (vs := ndV n) (g := gt) (off := ot + k * 13) (n := 13) _ rfl rfl HCL.out rfl underlying91 rfl (by kernel_rfl) (hK _ _ ?_))
   clear hK K HCL
   refine wpListIn_plain rfl fun K hK => ?_
   refine qbg (fun c h => by cases h) ?_
   go_step
   refine hK _ _ ?_
   clear hK K
   have KY := qh (Kept.new (Below.refl _ wr) (.cells #[.bool false, .string ⟨#[]⟩, .int .i64 0, .bool false, .string ⟨#[]⟩, .int .i64 0, .int .i64 0, .int .u8 0, .int .i64 0, .int .i64 0, .int .i64 0, .int .i64 0, .int .i64 0] 91))
   have BY := qh (Bx.new wr [.bool false, .string ⟨#[]⟩, .int .i64 0, .bool false, .string ⟨#[]⟩, .int .i64 0, .int .i64 0, .int .u8 0, .int .i64 0, .int .i64 0, .int .i64 0, .int .i64 0, .int .i64 0] 91 wr.heap.size rfl)
   obtain ⟨y, hy⟩ : ∃ y, y = wr.heap.size := ⟨_, rfl⟩
   have HY := qh (show wr.heap.size ≤ y by omega)
   rw [← hy] at BY ⊢
   clear hy b0 p1
   generalize World.alloc wr _ = w4 at *
   refine wpListIn_plain rfl fun K hK => qbg (fun c h => by cases h) (qaa (vs := ndV n) (b := y) (n := 13) _ _ rfl rfl rfl BY.out rfl rfl (by kernel_rfl) rfl (hK _ _ ?_))
   clear hK K
   replace BY := qh (BY.out.row (ndV n))
   replace KY := qh (Kept.row KY.out HY.out (ndV n))
   generalize World.setRow w4 _ _ = w5 at *
   gi_upto_region 6 with fail
   refine wpIn_region_list ?_
   refine wpListIn_plain rfl fun K hK => qbg (fun c h => by cases h) (qai (vs := ndV n) (b := y) (n := 13) _ rfl rfl BY.out rfl underlying91 rfl (by kernel_rfl) (hK _ _ ?_))
   clear hK K
   refine wpListIn_plain rfl fun K hK => ?_
   refine qbg (fun c h => by cases h) ?_
   go_step
   (with_reducible refine (qco n w5).mono ?_)
   rintro e w6 ⟨rfl, hk6⟩
   refine hK _ _ ?_
   clear hK K
   have K6 := qh (KY.out.trans' hk6)
   have BY6 := qh (BY.out.kept hk6)
   have HO6 := qh (HO2.out.kept K6.out)
   have HSM6 := qh (HSM.out.kept K6.out HT.out)
   have HA6 := qh (HA.out.kept hJ hU hlt K6.out)
   have HGY := qh (show g ≠ y by have := HY.out; omega)
   have HYB := qh (show B ≤ y by have := HY.out; omega)
   have HGL := qh (show g < w6.heap.size by have := K6.out.size; omega)
   clear hk6 KY BY HY HO2 HSM HA hck ew ew2 ew0 hpos hidx hkl hk0 K6
   rcases HNX.out with ⟨hn, hp⟩ | ⟨kp, kq, kr, ksx, hn, hp⟩
   ·have hpb : qbO n = false := by rw [qbw HS.out HKN.out, hn]; rfl
    rw [hpb]
    obtain ⟨hfil, tt, htt⟩ := qb8.leaf hp.all HKN.out hn
    have HFIL := qh hfil
    have HTT := qh htt
    have HPA := qh hp
    obtain ⟨fn, tmps, assign, body, hyl, hR⟩ := hY _ k w6 HA6.out.inv ⟨tt, htt⟩ (by rw [htt]; simp)
    dsimp only [encI] at hyl
    have HR := qh hR
    clear hR hfil hp hn htt hpb HNX
    gi_wp2_with fail
    refine HR.out.mono ?_
    rintro e W3 (⟨rfl, hJ4, hk4⟩ | ⟨rfl, hJx4⟩)
    ·rw [← HFIL.out] at hJ4
     have HJ4 := qh hJ4
     have hcB := HO6.out.cellsB (by omega)
     have hnu6 : ¬ U w6 g := fun e => HNU2.out (HA6.out.used g e)
     have hbg6 : W3.heap[g]? = w6.heap[g]? := by
      obtain ⟨o, ho, hco⟩ := hcB
      rw [hk4.same g o ho hco hnu6, ho]
     have HO7 := qh (HO6.out.keep hk4.size (fun g' hg' o => by cases hg'; exact ⟨World.cell?_of_block (a := ⟨g, o, none⟩) hbg6, World.frozen?_of_block (a := ⟨g, o, none⟩) hbg6⟩))
     have HSM7 := qh (HSM6.out.qo3 hk4 HC.out (fun k hk => hUT w6 k hk))
     have HNU7 := qh (show ¬ U W3 g from fun e => (hk4.used g e).elim hnu6 (fun h => by have := HGL.out; omega))
     clear hk4 hJ4 hcB hnu6 hbg6
     gi_wp2_with fail
     gi_roundg (R'.length + 1)
     case measure => have := HRL.out; omega
     case rel => exact ⟨ks, done ++ [k], R', _, W3, Nat.lt_succ_self _, rfl, HPA.out, by rw [← HNM.out]; exact HO7.out, HSM7.out, ⟨HJ4.out, fun _ h => h, Nat.le_refl _, hlt _ _ HJ4.out⟩, fun i hi => by cases hi; exact HNU7.out⟩
    ·have HX4 := qh hJx4
     gi_wp2
     refine bodyPost_ret (results_none rfl _ _ _) rfl ?_
     exact ⟨⟨_, rfl⟩, .inr ⟨_, ⟨tt, by rw [HTT.out]; simp⟩, HX4.out⟩⟩
   ·have hpb : qbO n = true := by rw [qbw HS.out HKN.out, hn]; rfl
    rw [hpb]
    have hfil := qb8.node (done := done) HKN.out (by rw [hn]; rfl)
    have HFIL := qh hfil
    have HPA := qh hp
    have HKD : Hid (∀ j : Nat, j < 4 → ∃ x i : Nat, i < 4 ∧ (3 - (j : Int)) = (i : Int) ∧ (ndV n)[9 + i]? = some (.int .i64 (x : Int)) ∧ [ksx, kr, kq, kp].take (j + 1) = [ksx, kr, kq, kp].take j ++ [x]) := by
     have hkd : n.kid = (kp, kq, kr, ksx) := by unfold NdD.kid; rw [hn]; rfl
     refine qh fun j hj => ?_
     unfold ndV
     rw [hkd]
     rcases (show j = 0 ∨ j = 1 ∨ j = 2 ∨ j = 3 by omega) with rfl | rfl | rfl | rfl
     ·exact ⟨ksx, 3, by omega, rfl, rfl, rfl⟩
     ·exact ⟨kr, 2, by omega, rfl, rfl, rfl⟩
     ·exact ⟨kq, 1, by omega, rfl, rfl, rfl⟩
     ·exact ⟨kp, 0, by omega, rfl, rfl, rfl⟩
    have HYG := qh (show ∀ i, (Value.slice (some ⟨g, off, none⟩) nm cap).ownBlock = some i → ¬ U W0 i ∧ i ≠ y from fun i hi => by
     cases hi
     exact ⟨HNU2.out, HGY.out⟩)
    clear hp hn hpb hfil HNX HP
    gi_wp2_with fail
    gi_loopg [3, 6] 4 (fun gj s3 s6 wx => ∃ (j : Nat) (vq : Value), j + gj = 4 ∧ s3 = vq ∧ s6 = .int .i64 (3 - (j : Int)) ∧ Bx wx y (ndV n) ∧ Own wx B 1 vq (nm + j) (qa1 (ks.reverse ++ [ksx, kr, kq, kp].take j)) ∧ Same (fun k => k = Bc ∨ TrB p v k) w wx ∧ At B U (J (done.filter (qbi S.L))) W0 wx ∧ ∀ i, vq.ownBlock = some i → ¬ U W0 i ∧ i ≠ y)
    case atStart => exact ⟨0, _, rfl, rfl, rfl, BY6.out, by rw [List.take_zero, List.append_nil]; exact HO6.out, HSM6.out, HA6.out, HYG.out⟩
    case round =>
     clear BY6 HO6 HSM6 HA6 HYG
     obtain ⟨j, vq, hjg, rfl, rfl, hby, hown, hsm, hat, hyg⟩ := hrel
     have HBY := qh hby
     have HO := qh hown
     have HSM := qh hsm
     have HA := qh hat
     have HYG := qh hyg
     clear hby hown hsm hat hyg
     cases gk with
     | zero =>
      obtain rfl : j = 4 := by omega
      gi_wp2_with fail
      gi_roundg (R'.length + 1)
      case measure => have := HRL.out; omega
      case rel =>
       refine ⟨kp :: kq :: kr :: ksx :: ks, done ++ [k], R', _, W0, Nat.lt_succ_self _, rfl, HPA.out, ?_, HSM.out, by rw [HFIL.out]; exact HA.out, fun i hi => (HYG.out i hi).1⟩
       have h := HO.out
       have e : ks.reverse ++ [ksx, kr, kq, kp].take 4 = (kp :: kq :: kr :: ksx :: ks).reverse := by simp
       rw [e, HNM.out] at h
       exact h
     | succ gj =>
      obtain ⟨x, i, hi4, hji, hnx, htk⟩ := HKD.out j (by omega)
      rw [hji]
      have hyc := HBY.out.c _ hnx
      have hi0 : (0 : Int) ≤ (i : Int) := by omega
      have hi4' : (i : Int) < 4 := by omega
      have ewi : IntKind.i64.wrap ((i : Int) - 1) = (3 - ((j + 1 : Nat) : Int)) := by rw [IntWalk.i64_in _ (by omega)]; omega
      have HTK := qh htk
      have HEW := qh ewi
      clear hnx htk hji ewi
      obtain ⟨i0, hi1, hi2, hi3, hi5⟩ := info_parts qfn
      have hbase : B ≤ wr.heap.size := by have h1 := HBY.out.lt; have h2 := HYB.out; omega
      gi_wp2_with (refine qdg _ rfl _ _ 98 rfl B 3 i0 (.int .i64 0) 1 8 underlying98 hi1 hi2 hi3 hi5 rfl (by decide) u3 (nm + j) (qa1 (ks.reverse ++ [ksx, kr, kq, kp].take j)) rfl (HO.out.alloc _) (some ⟨wr.heap.size, 0, none⟩) 1 1 [.int .i64 (x : Int)] rfl rfl (Row.qbA _ _ _ _ _ _ rfl rfl) (by intro u hu; simp at hu; subst hu; rfl) (by have := HBN.out; unfold maxLen; omega) (by have := HBN.out; omega) (by simp; omega) ?_)
      intro v9 w9 hown9 hg9 hv9
      have hKA := Kept.new (Below.refl _ wr) (.cells #[.int .i64 (x : Int)] 3)
      have hsz : (wr.alloc (.cells #[.int .i64 (x : Int)] 3)).heap.size = wr.heap.size + 1 := by simp
      have HBY9 := qh ((HBY.out.kept hKA).qfY hg9 (fun e => (HYG.out y e).2 rfl))
      have HSM9 := qh ((HSM.out.kept hKA HT.out).grown hg9 HT.out (fun i hi e => by have h1 := HT.out i hi; have h2 := HWB.out; have h3 := (HO.out.lt i e).1; omega))
      have HA9 := qh ((HA.out.kept hJ hU hlt hKA).grown hJ hU hlt hg9 (fun r e => ⟨(HO.out.lt r e).1, (HYG.out r e).1⟩))
      have HYG9 : Hid (∀ i, v9.ownBlock = some i → ¬ U W0 i ∧ i ≠ y) := by
       refine qh fun i hi => ?_
       rcases hv9 with h | h
       ·exact HYG.out i (h ▸ hi)
       ·have h1 := h i hi
        exact ⟨fun e => by have h2 := HA.out.lt0 i e; have h3 := HA.out.size; omega, fun e => by have h2 := HBY.out.lt; omega⟩
      have hO9 : Own w9 B 1 v9 (nm + (j + 1)) (qa1 (ks.reverse ++ [ksx, kr, kq, kp].take (j + 1))) := by
       rw [HTK.out, ← List.append_assoc, qdj]; exact hown9
      obtain ⟨A9, c9, rfl, -, -, -, -, -⟩ := hO9.form
      have HO9 := qh hO9
      have ewi := HEW.out
      clear hown9 hg9 hv9 hKA hsz hO9 HBY HSM HA HYG HO hyc
      gi_wp2_with fail
      gi_roundg gj
      case measure => omega
      case rel => exact ⟨j + 1, _, by omega, rfl, by go_num, HBY9.out, HO9.out, HSM9.out, HA9.out, HYG9.out⟩
section
open Go.RowKit Go.Shelf
def Defs (lo : Nat) (W : World) : List Deferred → Prop
 | [] => True
 | d :: ds => ∃ D, d = { target := .collected D, args := #[] } ∧ lo ≤ D ∧ W.heap[D]? = some (.deferred (some [])) ∧ ({ target := .collected D, args := #[] } : Deferred) ∉ ds ∧ Defs lo W ds
theorem Defs.keeps {lo : Nat} {W W' : World} (hk : ∀ (k : Nat) (o : Obj), W.heap[k]? = some o → o.isCells = false → W'.heap[k]? = some o) : ∀ {ds : List Deferred}, Defs lo W ds → Defs lo W' ds
 | [], _ => trivial
 | _ :: _, ⟨D, he, hl, hh, hn, hd⟩ => ⟨D, he, hl, hk _ _ hh rfl, hn, hd.keeps hk⟩
theorem Defs.put {lo : Nat} {W : World} {D : Nat} {o : Obj} : ∀ {ds : List Deferred}, Defs lo W ds → ({ target := .collected D, args := #[] } : Deferred) ∉ ds → Defs lo (W.putObj D o) ds
 | [], _, _ => trivial
 | _ :: _, ⟨D', he, hl, hh, hn, hd⟩, hm => by
  subst he
  have hne : D' ≠ D := fun e => hm (by subst e; simp)
  exact ⟨D', rfl, hl, (World.putObj_heap_other hne).trans hh, hn, hd.put fun h => hm (List.mem_cons_of_mem _ h)⟩
theorem qfg {F : Fence} {n : Nat} {P : Program} {fn : Func} {tmps : Array Value} {R : Ending → World → Prop} {lo : Nat} : ∀ (ds : List Deferred) (W : World), Defs lo W ds →
  (∀ W', Below lo W W' → (∀ (k : Nat) (o : Obj), W.heap[k]? = some o → o.isCells = true → W'.heap[k]? = some o) → ∃ v, (results fn tmps).run P W' = .ok v W' ∧ R (.returned v) W') → lo ≤ W.heap.size →
  LeavesInM F n P fn tmps R ds .returning W
 | [], W, _, h, _ => h W (Below.refl _ _) (fun _ _ h _ => h)
 | _ :: ds, W, ⟨D, he, hl, hh, hn, hd⟩, h, hlo => by
  subst he
  have hb : Below lo W (W.putObj D (.deferred none)) := (Below.refl lo W).grown (grownBy_putObj' W D _) hlo (fun k e => by cases e; exact hl)
  refine ⟨by simp, .inl ⟨D, _, rfl, run_takeDeferred hh, qfg ds _ ?_ (fun W' hb' hc' => ?_) (by simpa using hlo)⟩⟩
  ·exact hd.put hn
  ·refine h W' (hb.trans hb') fun k o hk hc => hc' k o ?_ hc
   exact (World.putObj_heap_other (fun e => by subst e; rw [hh] at hk; cases hk; cases hc)).trans hk
end
section
set_option maxRecDepth 100000
attribute [local go_sem] Oper.semAt_some
theorem qmy (p : Nat) (w : World) : Calls prog 88 #[.pointer (some ⟨p, 0, none⟩)] w fun e w' => ∃ B, e = .returned (.func (.func 131) #[] #[.pointer (some ⟨B, 0, none⟩)]) ∧ Kept w w' ∧ w.heap.size ≤ B ∧ Bx w' B [.pointer (some ⟨p, 0, none⟩)] := by
 go_enter func88, ntmps88
 go_wp2
 go_ret
 exact ⟨w.heap.size, rfl, (Below.refl _ _).alloc (Nat.le_refl _) _, Nat.le_refl _, Bx.new w [.pointer (some ⟨p, 0, none⟩)] _ _ rfl⟩
def qf6 (b n0 : Nat) (W : World) (k : Nat) : Prop := k = b ∨ (n0 ≤ k ∧ ∃ v, W.cell? ⟨b, 0, none⟩ = some v ∧ v.ownBlock = some k)
theorem qf6.ok {b n0 B : Nat} (hb : b < B) : qiC B (qf6 b n0) := by
 refine ⟨fun W W' row hlt hg hr k hk => ?_, fun W l o o' hl ho hc k hk => ?_⟩
 ·rcases hk with rfl | ⟨h1, v, h2, h3⟩
  ·exact .inl rfl
  ·have e := World.cell?_of_block (a := ⟨b, 0, none⟩) (hg.block b (hlt b (.inl rfl)) (fun e => hr b e.symm (.inl rfl)))
   exact .inr ⟨h1, v, e ▸ h2, h3⟩
 ·rcases hk with rfl | ⟨h1, v, h2, h3⟩
  ·exact .inl rfl
  ·have e := World.cell?_of_block (w := W) (w' := W.putObj l o') (a := ⟨b, 0, none⟩) (World.putObj_heap_other (by show b ≠ l; omega))
   exact .inr ⟨h1, v, e ▸ h2, h3⟩
structure qe7 (W : World) (b n0 : Nat) (l : List Nat) (v : Value) : Prop where
 box : Bx W b [v]
 own : Own W n0 1 v l.length (qa1 l)
 cells : ∀ k, v.ownBlock = some k → ∃ o, W.heap[k]? = some o ∧ o.isCells = true
theorem qe7.grown {W W' : World} {b n0 : Nat} {l : List Nat} {v : Value} {row : Option Nat} (h : qe7 W b n0 l v) (hg : W.grownBy W' row) (hb : row ≠ some b) (hv : ∀ k, v.ownBlock = some k → row ≠ some k) : qe7 W' b n0 l v :=
 ⟨h.box.qfY hg hb, h.own.grown hg (fun k hk e => hv k hk e.symm), fun k hk => by
  obtain ⟨o, ho, hc⟩ := h.cells k hk
  exact ⟨o, (hg.block k (h.own.lt k hk).2 (fun e => hv k hk e.symm)).trans ho, hc⟩⟩
def PlI (w : World) (b n0 : Nat) (l : List Nat) (W : World) : Prop := Kept w W ∧ ∃ v, qe7 W b n0 l v
theorem PlI.own {w : World} {b n0 B : Nat} (hb : b < B) (hw : w.heap.size ≤ B) : OwnFrom B (PlI w b n0) := by
 rintro l W W' row ⟨hk, v, h⟩ hg hr
 refine ⟨hk.grown hg (hk.size) (fun r e => Nat.le_trans hw (hr r e).1), v, h.grown hg (fun e => by have := (hr b e).1; omega) (fun k hk e => ?_)⟩
 obtain ⟨o, ho, hc⟩ := h.cells k hk
 obtain ⟨o', ho', hc'⟩ := (hr k e).2
 rw [ho] at ho'; cases ho'; rw [hc] at hc'; cases hc'
theorem PlI.use {w : World} {b n0 B : Nat} (hw : w.heap.size ≤ B) : qei B (qf6 b n0) (PlI w b n0) := by
 rintro l W W' row ⟨hk, v, h⟩ hg hr
 exact ⟨hk.grown hg (hk.size) (fun r e => Nat.le_trans hw (hr r e).1), v, h.grown hg (fun e => (hr b e).2 (.inl rfl)) (fun k hk e => (hr k e).2 (.inr ⟨(h.own.lt k hk).1, v, h.box.c 0 rfl, hk⟩))⟩
theorem PlI.lt {w : World} {b n0 : Nat} : ∀ l W, PlI w b n0 l W → ∀ k, qf6 b n0 W k → k < W.heap.size := by
 rintro l W ⟨-, v, h⟩ k (rfl | ⟨h1, v', h2, h3⟩)
 ·exact h.box.lt
 ·rw [h.box.c 0 rfl] at h2; cases h2; exact (h.own.lt k h3).2
theorem qe7.more {w W W1 w9 : World} {b n0 : Nat} {l : List Nat} {k : Nat} {vl v9 : Value} (hb : b < n0) (hb0 : w.heap.size ≤ b) (hkw : Kept w W) (h : qe7 W b n0 l vl) (h1 : Kept W W1) (hg : W1.grownBy w9 vl.ownBlock)
  (ho : Own w9 n0 1 v9 (l.length + 1) (qa1 (l ++ [k]))) (hv : v9.ownBlock = vl.ownBlock ∨ ∀ i, v9.ownBlock = some i → W1.heap.size ≤ i) :
  KeepsFrom n0 W (w9.setCell ⟨b, 0, none⟩ v9) ∧ qet (qf6 b n0) W (w9.setCell ⟨b, 0, none⟩ v9) ∧ PlI w b n0 (l ++ [k]) (w9.setCell ⟨b, 0, none⟩ v9) := by
 have hnb : ∀ i, vl.ownBlock = some i → i ≠ b := fun i hi => by have := (h.own.lt i hi).1; omega
 have hbW := h.box.lt
 have hB9 : Bx w9 b [vl] := (h.box.kept h1).qfY hg (fun e => hnb b e rfl)
 have hblk : ∀ i, i < W.heap.size → i ≠ b → vl.ownBlock ≠ some i → (w9.setCell ⟨b, 0, none⟩ v9).heap[i]? = W.heap[i]? := fun i hi h2 h3 =>
  ((Below.heap_setCell w9 ⟨b, 0, none⟩ v9 i h2).trans (hg.block i (Nat.lt_of_lt_of_le hi h1.size) (fun e => h3 e.symm))).trans (h1.block i hi)
 have hsz : W.heap.size ≤ (w9.setCell ⟨b, 0, none⟩ v9).heap.size := by
  have h2 : (w9.setCell ⟨b, 0, none⟩ v9).heap.size = w9.heap.size := by simp [World.setCell]
  have h3 := h1.size; have h4 := hg.size
  omega
 have hBB : Bx (w9.setCell ⟨b, 0, none⟩ v9) b [v9] := hB9.set 0 v9 (by simp)
 have hOO : Own (w9.setCell ⟨b, 0, none⟩ v9) n0 1 v9 (l.length + 1) (qa1 (l ++ [k])) := ho.far (fun i hi => by have := (ho.lt i hi).1; show i ≠ b; omega) v9
 refine ⟨⟨hsz, fun i o hi ho2 hc => ?_⟩, ⟨hsz, fun i o hi hc hu => ?_, fun i hi => ?_⟩, ?_, v9, hBB, ?_, fun i hi => ?_⟩
 ·refine (hblk i (Array.getElem?_eq_some_iff.1 ho2).1 (by omega) (fun e => ?_)).trans ho2
  obtain ⟨o', ho', hc'⟩ := h.cells i e
  rw [ho2] at ho'; cases ho'; rw [hc] at hc'; cases hc'
 ·exact (hblk i (Array.getElem?_eq_some_iff.1 hi).1 (fun e => hu (.inl e)) (fun e => hu (.inr ⟨(h.own.lt i e).1, vl, h.box.c 0 rfl, e⟩))).trans hi
 ·rcases hi with rfl | ⟨h2, v', h3, h4⟩
  ·exact .inl (.inl rfl)
  ·rw [hBB.c 0 rfl] at h3
   cases h3
   rcases hv with e | e
   ·exact .inl (.inr ⟨h2, vl, h.box.c 0 rfl, e ▸ h4⟩)
   ·exact .inr (Nat.le_trans h1.size (e i h4))
 ·exact ((hkw.trans' h1).grown hg ((hkw.trans' h1).size) (fun i hi => by have := (h.own.lt i hi).1; omega)).setCell hb0 v9
 ·simpa using hOO
 ·obtain ⟨A, c, rfl, h2, h3, h4, h5, h6⟩ := ho.form
  rcases hOO.2 with ⟨-, h0⟩ | ⟨g, off, cap, e, -, -, h7, -, -, h8⟩
  ·omega
  ·rw [e] at hi
   cases hi
   have h9 := (h8 0 (by omega)).1
   cases h10 : (w9.setCell ⟨b, 0, none⟩ (.slice A (l.length + 1) c)).cell? ⟨g, off + 0, none⟩ with
   | none => rw [h10] at h9; cases h9
   | some x => exact cells_of_cell h10
set_option maxHeartbeats 6400000 in
theorem places_any {w : World} {base p : Nat} {v : Value} {u : RuD} {S : StD} (hM : TrM w base p v u S) (hS : GoodS S) (hW : Whole S) :
  Calls prog 53 #[.pointer (some ⟨p, 0, none⟩)] w fun en w' => ∃ x, en = .returned x ∧ Own w' w.heap.size 1 x (qa3 S).length (qa1 (qa3 S)) ∧ Kept w w' := by
 have HM := qh hM
 have HS := qh hS
 have HW := qh hW
 have HPL := qh hM.box.lt
 clear hM hS hW
 refine callsIn_wide.1 (callsIn_of_wp_marks (n := 5) func53 rfl trivial ?_ rfl)
 simp only [ntmps53, List.size_toArray, List.length_cons, List.length_nil, Nat.reduceAdd, Nat.reduceSub, Array.replicate_succ, Array.replicate_zero, List.push_toArray, List.append_toArray, List.nil_append, List.cons_append]
 refine wpIn_wide.2 ?_
 go_upto_region 2 with fail
 have BL := qh (Bx.new w [.slice none 0 0] 98 w.heap.size rfl)
 have K1 := qh (Kept.new (Below.refl _ w) (.cells #[.slice none 0 0] 98))
 obtain ⟨b, hb⟩ : ∃ b, b = w.heap.size := ⟨_, rfl⟩
 have HB := qh hb
 rw [← hb] at BL ⊢
 clear hb
 generalize w.alloc _ = w1 at *
 go_wp2_with fail
 refine (qmy p _).mono ?_
 rintro e w2 ⟨Bc, rfl, hk2, hBc, hbx⟩
 have hf1 : ∀ W, (binOp .eql 166 (.func (.func 131) #[] #[.pointer (some ⟨Bc, 0, none⟩)]) .nilFunc).run prog W = .ok (.bool false) W := fun W => by kernel_rfl
 go_wp2_with fail
 have HK2 := qh (K1.out.trans' hk2)
 have HM2 := qh (HM.out.kept HK2.out)
 have hLT := BL.out.lt
 have hB2 := BL.out.kept hk2
 have hsz2 := hk2.size
 have hbc := hbx.lt
 have hv2 : ∀ k, v.ownBlock = some k → k < w.heap.size := fun k hk => (HM.out.own.lt k hk).2
 refine (wpIn_wide (n := 5)).1 (qgP (α := Nat) rfl (by decide) (gf := 131) (lb := #[.pointer (some ⟨Bc, 0, none⟩)]) rfl trivial (enters_of func131 (by kernel_rfl) rfl)
  (qnz 4 (by omega) HM2.out HS.out HW.out hbx (B0 := w2.heap.size) (U := qf6 b w2.heap.size) (qf6.ok (by omega)) (fun W k hk hu => ?ut))
  (qf6.ok (by omega)) (Below.refl _ _) (fun _ => rfl)
  (PlI w b w2.heap.size) (fun _ _ _ => False) (PlI.own (by omega) HK2.out.size) (fun _ s A B row h _ _ => h.elim) (PlI.use HK2.out.size) (fun _ s A B row h _ _ => h.elim) PlI.lt
  ⟨HK2.out, _, hB2, Own.nil _ _ _, fun k hk => by cases hk⟩
  (fun k a' _ => a' = { tmps := #[.pointer (some ⟨p, 0, none⟩), undef, .slice none 0 0, .pointer (some ⟨b, 0, none⟩), .int .i64 (k : Int), .pointer (some ⟨p, 0, none⟩), .func (.func 131) #[] #[.pointer (some ⟨Bc, 0, none⟩)], .int .i64 (k : Int), undef, undef, undef, undef, undef], defers := [] }) (fun x a' s A B row h _ _ => h) ?assign ?body ?done (fun D c pre W _ _ h _ => h.elim))
 case ut =>
  have hb2 := HB.out
  rcases hu with rfl | ⟨h1, -⟩
  ·rcases hk with rfl | rfl | hk
   ·omega
   ·have := HPL.out; omega
   ·have := hv2 _ hk; omega
  ·rcases hk with rfl | rfl | hk
   ·omega
   ·have := HPL.out; omega
   ·have := hv2 _ hk; omega
 case assign =>
  rintro l pre k W K2 hI hR hK2
  have HI := qh hI
  have HK := qh hK2
  clear hI hR hK2
  simp only [encI]
  gi_wp2
  exact HK.out _ _ (KeepsFrom.refl _ _) ⟨Nat.le_refl _, fun _ _ h _ _ => h, fun _ h => .inl h⟩ HI.out rfl
 case body =>
  rintro l pre k a' W hl ⟨rc, hrc⟩ ⟨hkw, vl, hli⟩ rfl hlen
  have hlen2 : pre.length ≤ 87381 := by
   have h1 := qdR HW.out
   have h2 := HS.out.len
   omega
  obtain ⟨i0, hi1, hi2, hi3, hi5⟩ := info_parts qfn
  have hc0 := hli.box.c 0 rfl
  have HKW := qh hkw
  have HLI := qh hli
  have HBL := qh (show b < w2.heap.size by omega)
  have HBW := qh (show w2.heap.size ≤ W.heap.size by have := (Array.getElem?_eq_some_iff.1 hrc).1; omega)
  clear hkw hli hrc hl hlen hLT hB2 hsz2 hbc hbx hBc hk2
  gi_wp2_with (refine qdg _ rfl _ _ 98 rfl w2.heap.size 3 i0 (.int .i64 0) 1 8 underlying98 hi1 hi2 hi3 hi5 rfl (by decide) vl pre.length (qa1 pre) rfl (HLI.out.own.alloc _) (some ⟨W.heap.size, 0, none⟩) 1 1 [.int .i64 (k : Int)] rfl rfl (Row.qbA _ _ _ _ _ _ rfl rfl) (by intro u hu; simp at hu; subst hu; rfl) (by unfold maxLen; omega) (by omega) (by have := HBW.out; simp; omega) ?_)
  intro v9 w9 hown9 hg9 hv9
  have hKA := Kept.new (Below.refl _ W) (.cells #[.int .i64 (k : Int)] 3)
  have hB9 : Bx w9 b [vl] := (HLI.out.box.kept hKA).qfY hg9 (fun e => by have := (HLI.out.own.lt b e).1; have := HBL.out; omega)
  have hM := qe7.more (w := w) (k := k) HBL.out (by have := HB.out; omega) HKW.out HLI.out hKA hg9 (by rw [qdj]; exact hown9) (hv9.imp id (fun h i hi => by have := h i hi; simpa using this))
  have HM9 := qh hM
  obtain ⟨A9, c9, rfl, -, -, -, -, -⟩ := hown9.form
  have hc9 := hB9.c 0 rfl
  have hf9 := hB9.f 0
  clear hM hown9 hg9 hv9 hKA hB9 hc0
  gi_wp2_with fail
  exact HM9.out
 case done =>
  rintro D xs W hD rfl ⟨hkw, vl, hli⟩ hDef
  dsimp only
  have hc0 := hli.box.c 0 rfl
  have HLI := qh hli
  have HKW := qh hkw
  have HD := qh hDef
  have HDL := qh hD
  have HBW := qh hli.box.lt
  clear hli hkw hDef hD hB2 hLT hsz2 hbc hbx hBc hk2
  go_wp2_with fail
  refine qfg (lo := w2.heap.size) _ _ ⟨D, rfl, HDL.out, HD.out, by simp, trivial⟩ (fun W' hb hcc => ?_) (by have := (Array.getElem?_eq_some_iff.1 HD.out).1; have := HDL.out; omega)
  have hO : Own W' w.heap.size 1 vl (qa3 S).length (qa1 (qa3 S)) := by
   refine (HLI.out.own.less HK2.out.size).keep hb.size fun i hi o => ?_
   obtain ⟨ob, h1, h2⟩ := HLI.out.cells i hi
   have h3 := (hcc i ob h1 h2).trans h1.symm
   exact ⟨World.cell?_of_block (a := ⟨i, o, none⟩) h3, World.frozen?_of_block (a := ⟨i, o, none⟩) h3⟩
  exact ⟨vl, by simp [results, f53, go_sem], vl, rfl, hO, HKW.out.trans (hb.mono HK2.out.size)⟩
end
section
set_option maxRecDepth 100000
theorem leaves_any (p : Nat) (w : World) : Calls prog 21 #[.pointer (some ⟨p, 0, none⟩)] w fun e w' => ∃ B, e = .returned (.func (.func 52) #[] #[.pointer (some ⟨B, 0, none⟩)]) ∧ Kept w w' ∧ w.heap.size ≤ B ∧ Bx w' B [.pointer (some ⟨p, 0, none⟩)] := by
 go_enter func21, ntmps21
 go_wp2
 go_ret
 exact ⟨w.heap.size, rfl, (Below.refl _ _).alloc (Nat.le_refl _) _, Nat.le_refl _, Bx.new w [.pointer (some ⟨p, 0, none⟩)] _ _ rfl⟩
def leafE (S : StD) (k : Nat) : Array Value := match S.L[k]? with
 | some n => #[.agg #[.bool n.sq.left.neg, .string n.sq.left.n, .int .i64 n.sq.left.e, .bool n.sq.low.neg, .string n.sq.low.n, .int .i64 n.sq.low.e, .int .i64 n.sq.e], .int .u8 (n.told : Int)]
 | none => #[undef, undef]
theorem intsV_get (l : List Nat) (i k : Nat) (h : l[i]? = some k) : (qa1 l)[i]? = some (.int .i64 (k : Int)) := by simp [qa1, h]
set_option maxHeartbeats 6400000 in
theorem leaves_owns (m : Nat) (hm1 : 1 ≤ m) {w : World} {base p Bc : Nat} {v : Value} {u : RuD} {S : StD} (hM : TrM w base p v u S) (hS : GoodS S) (hW0 : Whole S) (hb : Bx w Bc [.pointer (some ⟨p, 0, none⟩)])
  {B0 : Nat} {U : World → Nat → Prop} (hU : qiC B0 U) (hUT : ∀ W k, k = Bc ∨ TrB p v k → ¬ U W k) :
  qkS Fence.wide m prog 52 #[.pointer (some ⟨Bc, 0, none⟩)] (leafE S) U (fun pre k _ => ∃ t, qa3 S = pre ++ k :: t) (fun xs => xs = qa3 S) (fun pre => ∃ t, qa3 S = pre ++ t) (qa3 S).length w := by
 intro l J Jx W hW hJ hJx hlt hY h0
 have hTc : ∀ k, k = Bc ∨ TrB p v k → k < w.heap.size ∧ ∃ o, w.heap[k]? = some o ∧ o.isCells = true := by
  rintro k (rfl | hk)
  ·exact ⟨hb.lt, cells_of_cell (hb.c 0 rfl)⟩
  ·exact hM.cellsB hS.pos k hk
 have HT := qh (fun k hk => (hTc k hk).1)
 have HC := qh (fun k hk => (hTc k hk).2)
 have HSM := qh (show Same (fun k => k = Bc ∨ TrB p v k) w W from ⟨hW.size, fun k hk => hW.block k (hTc k hk).1⟩)
 have HM := qh hM
 have HB := qh hb
 have c0 := (hb.same HSM.out (.inl rfl)).c 0 rfl
 have PL := qh (fun W h => places_any (w := W) (hM.same (T := fun k => k = Bc ∨ TrB p v k) h (fun k hk => .inr hk)) hS hW0)
 have HPT := qh (qe1 hW0)
 have hplen : (qa3 S).length ≤ 87381 := by
  have h1 := qdR hW0
  have h2 := hS.len
  omega
 have HA := qh (show At W.heap.size U (J []) W W from ⟨h0, fun _ h => h, Nat.le_refl _, hlt _ _ h0⟩)
 have HWB := qh hW.size
 have HS := qh hS
 clear hTc hM hS hW0 hb hW h0
 refine callsIn_of_wp func52 rfl trivial ?_ rfl
 simp only [ntmps52, List.size_toArray, List.length_cons, List.length_nil, Nat.reduceAdd, Nat.reduceSub, Array.replicate_succ, Array.replicate_zero, List.push_toArray, List.append_toArray, List.nil_append, List.cons_append]
 gi_wp2
 refine ⟨trivial, (callsIn_wide.2 (PL.out W HSM.out)).mono ?_⟩
 rintro e w1 ⟨x, rfl, hown, hk1⟩
 obtain ⟨A, c, hx0, -, -, -, -, -⟩ := hown.form
 subst hx0
 have HO0 := qh hown
 have HSM1 := qh (HSM.out.kept hk1 HT.out)
 have HA1 := qh (HA.out.kept hJ hU hlt hk1)
 have HNU : Hid (∀ k, (Value.slice A (qa3 S).length c).ownBlock = some k → ¬ U W k) := qh fun k hk e => by
  have h1 := (hown.lt k hk).1
  have h2 := hlt _ _ HA.out.inv _ e
  omega
 obtain ⟨B, hB⟩ : ∃ B, B = W.heap.size := ⟨_, rfl⟩
 rw [← hB] at hJ hJx HA1 HO0 HWB
 obtain ⟨L, hL⟩ : ∃ L, L = qa3 S := ⟨_, rfl⟩
 rw [← hL] at hY HPT hplen HO0 HNU ⊢
 obtain ⟨LN, hLN⟩ : ∃ LN, LN = L.length := ⟨_, rfl⟩
 rw [← hLN] at hY hplen HO0 HNU ⊢
 have HLN := qh hLN
 have HLP := qh hplen
 have HLS := qh hL
 clear hB hL hLN hk1 hown c0 HA HSM PL
 gi_wp2_with fail
 gi_loopg [9] (LN + 1) (fun gh s9 wr => ∃ (i : Nat) (W0 : World), i + gh = LN + 1 ∧ i ≤ LN ∧ s9 = .int .i64 (i : Int) ∧ Own wr B 1 (.slice A LN c) LN (qa1 L) ∧ Same (fun k => k = Bc ∨ TrB p v k) w wr ∧ At B U (J (L.take i)) W0 wr ∧ ∀ k, (Value.slice A LN c).ownBlock = some k → ¬ U W0 k)
 case atStart => exact ⟨0, W, by omega, by omega, rfl, HO0.out, HSM1.out, HA1.out, HNU.out⟩
 case round =>
  clear HO0 HSM1 HA1 HNU
  obtain ⟨i, W0, hig, hi, rfl, hown, hsm, hat, hnu⟩ := hrel
  have HO := qh hown
  have HSM := qh hsm
  have HA := qh hat
  have HNU := qh hnu
  clear hown hsm hat hnu
  rcases Nat.lt_or_ge i LN with hil | hil
  ·obtain ⟨k, hk⟩ : ∃ k, L[i]? = some k := ⟨_, List.getElem?_eq_getElem (by have := HLN.out; omega)⟩
   have HK := qh hk
   have hkm := List.mem_of_getElem? hk
   have hown := HO.out
   rcases hown.2 with ⟨-, h0⟩ | ⟨g, off, cap, he, hbg, hgl, hnc, hcm, hx, hc⟩
   ·omega
   injection he with he1 he2 he3
   subst he1 he3
   have hck := hx i (.int .i64 (k : Int)) (intsV_get L i k hk)
   have HCAP := qh (show 0 < c by omega)
   have hkS := HPT.out k hkm
   obtain ⟨n, hn⟩ : ∃ n, S.L[k]? = some n := ⟨_, List.getElem?_eq_getElem hkS⟩
   have HKN := qh hn
   have hi0 : (0 : Int) ≤ (i : Int) := by omega
   have hilI : (i : Int) < (LN : Int) := by omega
   have ewi : IntKind.i64.wrap ((i : Int) + 1) = ((i + 1 : Nat) : Int) := by rw [IntWalk.i64_in _ (by omega)]; omega
   have HEW := qh ewi
   have HIL := qh hil
   clear hk hkm hown hx hc hn ewi hil hkS
   gi_upto_region 3 with fail
   have TM := HM.out.same HSM.out (fun k hk => .inr hk)
   obtain ⟨gt, ot, ct, hv, -, hgt, -, hcell, -⟩ := TM.form HS.out.pos
   have HCL := qh (fun i y hy => show wr.cell? ⟨gt, ot + k * 13 + i, none⟩ = some y by rw [Nat.add_assoc]; exact hcell k n i y HKN.out hy)
   have b0 := (HB.out.same HSM.out (.inl rfl)).c 0 rfl
   have p1 := TM.box.c 1 rfl
   rw [hv] at p1
   have hkl : (k : Int) < ((S.L.length : Nat) : Int) := by have := (List.getElem?_eq_some_iff.1 HKN.out).1; omega
   have hk0 : (0 : Int) ≤ (k : Int) := by omega
   clear hv TM hcell
   generalize S.L.length = SN at hkl p1
   refine wpIn_region_list ?_
   iterate 6
    refine wpListIn_plain rfl fun K hK => ?_
    refine qbg (fun c h => by cases h) ?_
    go_step
    refine hK _ _ ?_
    clear hK K
   refine wpListIn_plain rfl fun K hK => qbg (fun c h => by cases h) (qav (vs := ndV n) (g := gt) (off := ot + k * 13) (n := 13) _ rfl rfl HCL.out rfl underlying91 rfl (by kernel_rfl) (hK _ _ ?_))
   clear hK K HCL
   refine wpListIn_plain rfl fun K hK => ?_
   refine qbg (fun c h => by cases h) ?_
   go_step
   refine hK _ _ ?_
   clear hK K
   have KY := qh (Kept.new (Below.refl _ wr) (.cells #[.bool false, .string ⟨#[]⟩, .int .i64 0, .bool false, .string ⟨#[]⟩, .int .i64 0, .int .i64 0, .int .u8 0, .int .i64 0, .int .i64 0, .int .i64 0, .int .i64 0, .int .i64 0] 91))
   have BY := qh (Bx.new wr [.bool false, .string ⟨#[]⟩, .int .i64 0, .bool false, .string ⟨#[]⟩, .int .i64 0, .int .i64 0, .int .u8 0, .int .i64 0, .int .i64 0, .int .i64 0, .int .i64 0, .int .i64 0] 91 wr.heap.size rfl)
   obtain ⟨y, hy⟩ : ∃ y, y = wr.heap.size := ⟨_, rfl⟩
   have HY := qh (show wr.heap.size ≤ y by omega)
   rw [← hy] at BY ⊢
   clear hy b0 p1
   generalize World.alloc wr _ = w4 at *
   refine wpListIn_plain rfl fun K hK => qbg (fun c h => by cases h) (qaa (vs := ndV n) (b := y) (n := 13) _ _ rfl rfl rfl BY.out rfl rfl (by kernel_rfl) rfl (hK _ _ ?_))
   clear hK K
   replace BY := qh (BY.out.row (ndV n))
   replace KY := qh (Kept.row KY.out HY.out (ndV n))
   generalize World.setRow w4 _ _ = w5 at *
   have HO5 := qh (HO.out.kept KY.out)
   have HSM5 := qh (HSM.out.kept KY.out HT.out)
   have HA5 := qh (HA.out.kept hJ hU hlt KY.out)
   have HGY := qh (show g ≠ y by have := HY.out; omega)
   have HGL := qh (show g < w5.heap.size by have := KY.out.size; omega)
   have hsz5 := KY.out.size
   clear KY HY HO HSM HA hck hkl hk0
   have hdrop : L = L.take i ++ k :: L.drop (i + 1) := by
    have h1 := HK.out
    obtain ⟨h2, h3⟩ := List.getElem?_eq_some_iff.1 h1
    rw [← h3, ← List.drop_eq_getElem_cons h2, List.take_append_drop]
   have htk : L.take i ++ [k] = L.take (i + 1) := by
    rw [List.take_add_one, HK.out]; rfl
   have HTK := qh htk
   have HDR := qh hdrop
   obtain ⟨fn, tmps, assign, body, hyl, hR⟩ := hY _ k w5 HA5.out.inv ⟨_, hdrop⟩ (by rw [List.length_take]; have := HIL.out; omega)
   have he : leafE S k = #[.agg #[.bool n.sq.left.neg, .string n.sq.left.n, .int .i64 n.sq.left.e, .bool n.sq.low.neg, .string n.sq.low.n, .int .i64 n.sq.low.e, .int .i64 n.sq.e], .int .u8 (n.told : Int)] := by unfold leafE; rw [HKN.out]
   rw [he] at hyl
   have HR := qh hR
   clear hR hdrop htk he
   have y0 := BY.out.c 0 rfl
   have y1 := BY.out.c 1 rfl
   have y2 := BY.out.c 2 rfl
   have y3 := BY.out.c 3 rfl
   have y4 := BY.out.c 4 rfl
   have y5 := BY.out.c 5 rfl
   have y6 := BY.out.c 6 rfl
   have y7 := BY.out.c 7 rfl
   gi_wp2_with fail
   refine HR.out.mono ?_
   rintro e W3 (⟨rfl, hJ4, hk4⟩ | ⟨rfl, hJx4⟩)
   ·rw [HTK.out] at hJ4
    have HJ4 := qh hJ4
    have hcB := HO5.out.cellsB (by have := HCAP.out; omega)
    have hnu5 : ¬ U w5 g := fun e => HNU.out g rfl (HA5.out.used g e)
    have hbg5 : W3.heap[g]? = w5.heap[g]? := by
     obtain ⟨o, ho, hco⟩ := hcB
     rw [hk4.same g o ho hco hnu5, ho]
    have HO7 := qh (HO5.out.keep hk4.size (fun g' hg' o => by cases hg'; exact ⟨World.cell?_of_block (a := ⟨g, o, none⟩) hbg5, World.frozen?_of_block (a := ⟨g, o, none⟩) hbg5⟩))
    have HSM7 := qh (HSM5.out.qo3 hk4 HC.out (fun k hk => hUT w5 k hk))
    have HNU7 := qh (show ¬ U W3 g from fun e => (hk4.used g e).elim hnu5 (fun h => by have := HGL.out; omega))
    clear hk4 hJ4 hcB hnu5 hbg5 y0 y1 y2 y3 y4 y5 y6 y7 hyl
    have ewi := HEW.out
    gi_wp2_with fail
    gi_roundg (LN - i)
    case measure => have := HIL.out; omega
    case rel => exact ⟨i + 1, W3, by have := HIL.out; omega, by have := HIL.out; omega, by go_num, HO7.out, HSM7.out, ⟨HJ4.out, fun _ h => h, Nat.le_refl _, hlt _ _ HJ4.out⟩, fun j hj => by cases hj; exact HNU7.out⟩
   ·have HX4 := qh hJx4
    gi_wp2
    refine bodyPost_ret (results_none rfl _ _ _) rfl ?_
    rw [HTK.out] at HX4
    exact ⟨⟨_, rfl⟩, .inr ⟨_, ⟨L.drop (i + 1), by rw [← HLS.out]; exact (List.take_append_drop (i + 1) L).symm⟩, HX4.out⟩⟩
  ·have hA := HA.out
   rw [List.take_of_length_le (by have := HLN.out; omega)] at hA
   have HAI := qh hA.inv
   have hge : ¬ (i : Int) < (LN : Int) := by omega
   clear hA HA HO HSM HNU
   gi_wp2_with fail
   go_end0
   exact ⟨⟨_, rfl⟩, .inl (HLS.out ▸ HAI.out)⟩
end
theorem qhq {s : SqD} {q : SqD × SqD × SqD × SqD} (hs : sqB s = true) (h : qcD s = some q) : sqB q.1 = true ∧ sqB q.2.1 = true ∧ sqB q.2.2.1 = true ∧ sqB q.2.2.2 = true := by
 unfold qcD at h
 cases hp : qbp s with
 | none => rw [hp] at h; cases h
 | some l =>
  obtain ⟨hl, hl2⟩ := qd2 hs hp
  match l, hl with
  | [a, b, c, e], _ =>
   rw [hp] at h
   simp only at h
   split at h
   ·cases h; exact ⟨hl2 _ (by simp), hl2 _ (by simp), hl2 _ (by simp), hl2 _ (by simp)⟩
   ·cases h
theorem GoodS.qaH {S : StD} (h : GoodS S) (u : RuD) (k : Nat) : GoodS (qaH (qaD u) S k).1 := by
 cases hs : qal S k with
 | none => rw [qeT hs]; exact h
 | some x =>
  obtain ⟨n, q⟩ := x
  rw [qd5 hs]
  obtain ⟨h1, _, _, _, _, h6⟩ := qa5 hs
  exact h.part hs (qhq (h.nd k n h1).sq h6) _ (fun s => qkZ u s)
theorem qhS (t : SqD → Nat) (S : StD) (k : Nat) : (qaH t S k).1.L.length = S.L.length + (if (qaH t S k).2 = true then 4 else 0) := by
 cases hs : qal S k with
 | none => rw [qeT hs]; simp
 | some x =>
  obtain ⟨n, q⟩ := x
  rw [qd5 hs]
  show (qak S.L k n q t).length = _
  rw [qat]; simp
def qcw (w : World) (base p : Nat) (v : Value) (u : RuD) (S : StD) (w' : World) : Prop :=
 ∃ v', TrM w' base p v' u S ∧ Far (TrB p v) w w' ∧ (v'.ownBlock = v.ownBlock ∨ ∀ i, v'.ownBlock = some i → w.heap.size ≤ i)
theorem Far.post {w w1 w2 : World} {p : Nat} {v v1 : Value} (h : Far (TrB p v) w w1) (hv : v1.ownBlock = v.ownBlock ∨ ∀ i, v1.ownBlock = some i → w.heap.size ≤ i) (g : Far (TrB p v1) w1 w2) : Far (TrB p v) w w2 :=
 h.trans g fun i hi hb => by
  rcases hb with rfl | hb
  ·exact .inl rfl
  ·rcases hv with e | e
   ·exact .inr (e ▸ hb)
   ·have := e i hb; omega
theorem qfp {w w1 : World} {v v1 v2 : Value} (hs : w.heap.size ≤ w1.heap.size) (hv : v1.ownBlock = v.ownBlock ∨ ∀ i, v1.ownBlock = some i → w.heap.size ≤ i) (hw : v2.ownBlock = v1.ownBlock ∨ ∀ i, v2.ownBlock = some i → w1.heap.size ≤ i) : v2.ownBlock = v.ownBlock ∨ ∀ i, v2.ownBlock = some i → w.heap.size ≤ i := by
 rcases hw with e | e
 ·rw [e]; exact hv
 ·exact .inr fun i hi => by have := e i hi; omega
theorem qht {w : World} {base p : Nat} {v : Value} {u : RuD} {S : StD} {k : Nat} (hM : TrM w base p v u S) (hS : GoodS S) (hk : k < S.L.length) (hT : T32 w) (hu : u.ok) :
  Calls prog 34 #[.pointer (some ⟨p, 0, none⟩), .int .i64 (k : Int)] w fun en w' => en = .returned (.bool (qaH (qaD u) S k).2) ∧ qcw w base p v u (qaH (qaD u) S k).1 w' := by
 have hn := List.getElem?_eq_getElem hk
 cases hs : qal S k with
 | none => exact (qn5 hM hS hn hT hu hs).mono fun en w' ⟨v', h1, h2⟩ => ⟨h1, v', h2⟩
 | some x =>
  obtain ⟨n, q⟩ := x
  exact (qmV hM hS (qa5 hs).1 hT hu hs).mono fun en w' ⟨v', h1, h2⟩ => ⟨h1, v', h2⟩
def qbj (t : SqD → Nat) : List Nat → StD → StD × Nat
 | [], S => (S, 0)
 | k :: l, S => ((qbj t l (qaH t S k).1).1, (if (qaH t S k).2 = true then 1 else 0) + (qbj t l (qaH t S k).1).2)
def stepD (t : SqD → Nat) (S : StD) : StD × Nat := qbj t (qa3 S) S
theorem qhH (t : SqD → Nat) : ∀ l S, (qbj t l S).2 ≤ l.length
 | [], S => by simp [qbj]
 | k :: l, S => by
  have := qhH t l (qaH t S k).1
  simp only [qbj, List.length_cons]
  split <;> omega
theorem qg1 (t : SqD → Nat) : ∀ l S, (qbj t l S).1.L.length = S.L.length + 4 * (qbj t l S).2
 | [], S => by simp [qbj]
 | k :: l, S => by
  have := qg1 t l (qaH t S k).1
  have h2 := qhS t S k
  simp only [qbj]
  split at h2 <;> simp_all <;> omega
theorem qes {u : RuD} : ∀ l {S : StD}, GoodS S → GoodS (qbj (qaD u) l S).1
 | [], S, h => h
 | k :: l, S, h => qes l (h.qaH u k)
theorem qfx {t : SqD → Nat} : ∀ l {S : StD}, Whole S → Whole (qbj t l S).1
 | [], S, h => h
 | k :: l, S, h => qfx l (h.part t k)
theorem T32.base {w w' : World} {p base : Nat} {v : Value} {n : Nat} {xs : List Value} {size : Nat} (h : T32 w) (hf : Far (TrB p v) w w') (hg : 1 < base) (hp : base ≤ p) (ho : Own w base size v n xs) : T32 w' :=
 h.to hf (fun e => by
  rcases e with e | e
  ·omega
  ·have := (ho.lt _ e).1; omega)
set_option maxRecDepth 100000 in
set_option maxHeartbeats 6400000 in
theorem qiB {w : World} {base p : Nat} {v : Value} {u : RuD} {S : StD} (hM : TrM w base p v u S) (hS : GoodS S) (hW : Whole S) (hT : T32 w) (hu : u.ok) (hg : 1 < base) :
  Calls prog 24 #[.pointer (some ⟨p, 0, none⟩)] w fun en w' => en = .returned (.tuple #[.int .i64 ((stepD (qaD u) S).2 : Nat), .int .i64 0]) ∧ qcw w base p v u (stepD (qaD u) S).1 w' := by
 have NN := qh (qb7 hM hS)
 have PL := qh (places_any hM hS hW)
 have HM := qh hM
 have HS := qh hS
 have HW := qh hW
 have HT := qh hT
 have HU := qh hu
 have HG := qh hg
 have HLN := qh (qdR hW)
 have HLT := qh (qe1 hW)
 unfold stepD
 obtain ⟨LP, hLP⟩ : ∃ LP, LP = qa3 S := ⟨_, rfl⟩
 rw [← hLP] at PL HLN HLT ⊢
 clear hM hS hW hT hu hLP hg
 have HE1 := qh (qhH (qaD u) LP S)
 have HDR := qh (show (qbj (qaD u) (LP.drop 0) S).1 = (qbj (qaD u) LP S).1 ∧ 0 + (qbj (qaD u) (LP.drop 0) S).2 = (qbj (qaD u) LP S).2 by simp)
 generalize (qbj (qaD u) LP S).1 = E1 at *
 generalize (qbj (qaD u) LP S).2 = E2 at *
 go_enter func24, ntmps24
 go_wp2_with fail
 refine NN.out.mono ?_
 rintro e w1 ⟨rfl, h1⟩
 replace h1 := h1.symm
 subst h1
 go_wp2_with fail
 refine PL.out.mono ?_
 rintro e w2 ⟨x, rfl, hx, hk2⟩
 obtain ⟨A, c, rfl, -, -, -, hA, -⟩ := hx.form
 have hb : ∀ i, (Value.slice A LP.length c).ownBlock = some i → w.heap.size ≤ i ∧ i < w2.heap.size := fun i hi => hx.lt i hi
 have HX := qh hx
 have HB := qh hb
 have HK2 := qh hk2
 clear hx hb hk2 NN PL hA
 go_wp2_with fail
 have HLL := qh (show LP.length ≤ 87381 by have := HLN.out; have := HS.out.len; omega)
 obtain ⟨N, hN⟩ : ∃ N, N = LP.length := ⟨_, rfl⟩
 rw [← hN] at HX HB HLL HE1 ⊢
 have HN := qh hN
 clear hN
 go_loopg [4, 12] N (fun gh v4 v12 wr => ∃ (j cnt : Nat) (Sm : StD) (vm : Value), j + gh = N ∧ v4 = .int .i64 (cnt : Int) ∧ v12 = .int .i64 (j : Int) ∧ cnt ≤ j ∧ ((qbj (qaD u) (LP.drop j) Sm).1 = E1 ∧ cnt + (qbj (qaD u) (LP.drop j) Sm).2 = E2) ∧ TrM wr base p vm u Sm ∧ GoodS Sm ∧ Far (TrB p v) w wr ∧
  (vm.ownBlock = v.ownBlock ∨ ∀ i, vm.ownBlock = some i → w.heap.size ≤ i) ∧ S.L.length ≤ Sm.L.length ∧ Own wr w.heap.size 1 (.slice A N c) N (qa1 LP) ∧ T32 wr ∧ ∀ i, (Value.slice A N c).ownBlock = some i → ¬ TrB p vm i)
 case atStart =>
  exact ⟨0, 0, S, v, by omega, rfl, rfl, Nat.le_refl _, HDR.out, HM.out.kept HK2.out, HS.out, Far.qcE HK2.out, .inl rfl, Nat.le_refl _, HX.out, HT.out.kept HK2.out, fun i hi hb => by
   have h1 := (HB.out i hi).1
   rcases hb with rfl | hb
   ·have := HM.out.box.lt; omega
   ·have := (HM.out.own.lt i hb).2; omega⟩
 case round =>
  clear HX HDR HB
  obtain ⟨j, cnt, Sm, vm, hjg, rfl, rfl, hcj, hE, hM2, hS2, hF2, hv2, hl2, hX2, hT2, hn2⟩ := hrel
  have HE := qh hE
  have HM2 := qh hM2
  have HS2 := qh hS2
  have HF2 := qh hF2
  have HV2 := qh hv2
  have HL2 := qh hl2
  have HX2 := qh hX2
  have HT2 := qh hT2
  have HN2 := qh hn2
  clear hE hM2 hS2 hF2 hv2 hl2 hX2 hT2 hn2
  cases gk with
  | zero =>
   obtain rfl : j = N := by omega
   have he := HE.out
   rw [HN.out, List.drop_length] at he
   simp only [qbj, Nat.add_zero] at he
   obtain ⟨rfl, rfl⟩ := he
   go_wp2_with fail
   exact bodyPost_ret (v := .tuple #[.int .i64 (cnt : Int), .int .i64 0]) (by simp [results, results24, go_sem]) rfl ⟨rfl, vm, HM2.out, HF2.out, HV2.out⟩
  | succ gj =>
   obtain ⟨k, hk⟩ : ∃ k, LP[j]? = some k := ⟨_, List.getElem?_eq_getElem (by have := HN.out; omega)⟩
   have hjN : (j : Int) < (N : Int) := by omega
   have hkm : k ∈ LP := List.mem_of_getElem? hk
   obtain ⟨g, off, rfl, hcx⟩ : ∃ g off, A = some ⟨g, off, none⟩ ∧ wr.cell? ⟨g, off + j, none⟩ = some (.int .i64 (k : Int)) := by
    rcases HX2.out.2 with ⟨-, h0⟩ | ⟨g, off, cap, e, -, -, -, -, hx, -⟩
    ·omega
    ·injection e with e1
     exact ⟨g, off, e1, hx j _ (by simp [qa1, hk])⟩
   have hlt := HLT.out k hkm
   have ewj : IntKind.i64.wrap ((j : Int) + 1) = ((j + 1 : Nat) : Int) := by have := HLL.out; rw [IntWalk.i64_in _ (by omega)]; omega
   have PA := qh (qht (k := k) HM2.out HS2.out (by have := HL2.out; omega) HT2.out HU.out)
   have HDJ := qh (show LP.drop j = k :: LP.drop (j + 1) from List.drop_eq_getElem_cons (by have := HN.out; omega) |>.trans (by rw [List.getElem?_eq_some_iff.1 hk |>.2]))
   clear hkm hlt hk
   go_wp2_with fail
   refine PA.out.mono ?_
   rintro e w3 ⟨rfl, vn, hM3, hF3, hv3⟩
   have hpl := qhS (qaD u) Sm k
   have hgs := HS2.out.qaH u k
   have he := HE.out
   rw [HDJ.out] at he
   simp only [qbj] at he
   obtain ⟨b3, hb3⟩ : ∃ b3, b3 = (qaH (qaD u) Sm k).2 := ⟨_, rfl⟩
   rw [← hb3] at hpl he ⊢
   clear hb3
   generalize (qaH (qaD u) Sm k).1 = S3 at *
   have HM3 := qh hM3
   have HS3 := qh hgs
   have HF3 := qh (HF2.out.post HV2.out hF3)
   have HV3 := qh (qfp HF2.out.size HV2.out hv3)
   have HL3 := qh (show S.L.length ≤ S3.L.length by have := HL2.out; omega)
   have HX3 := qh (HX2.out.to hF3 (fun i hi => HN2.out i hi))
   have HT3 := qh (HT2.out.base hF3 HG.out HM2.out.ge HM2.out.own)
   have HN3 : Hid (∀ i, (Value.slice (some ⟨g, off, none⟩) N c).ownBlock = some i → ¬ TrB p vn i) := qh fun i hi hb => by
    have h1 := HN2.out i hi
    rcases hb with rfl | hb
    ·exact h1 (.inl rfl)
    ·rcases hv3 with e | e
     ·exact h1 (.inr (e ▸ hb))
     ·have h2 := e i hb
      have h3 := (HX2.out.lt i hi).2
      omega
   have HEN := qh he
   have hwr := (HM2.out.box.lt)
   clear hM3 hgs hF3 hv3 hpl he HM2 HS2 HF2 HV2 HL2 HX2 HT2 HN2 HE PA hcx hwr
   cases b3 with
   | false =>
    simp only [Bool.false_eq_true, if_false, Nat.zero_add] at HEN
    go_wp2_with fail
    go_roundg gj
    case measure => omega
    case rel => exact ⟨j + 1, cnt, S3, vn, by omega, rfl, by go_num, by omega, HEN.out, HM3.out, HS3.out, HF3.out, HV3.out, HL3.out, HX3.out, HT3.out, HN3.out⟩
   | true =>
    have hen := HEN.out
    simp only [if_true, ← Nat.add_assoc] at hen
    have HEM := qh hen
    clear hen HEN
    have ew : IntKind.i64.wrap ((cnt : Int) + 1) = ((cnt + 1 : Nat) : Int) := by have := HLL.out; rw [IntWalk.i64_in _ (by omega)]; omega
    go_wp2_with fail
    go_roundg gj
    case measure => omega
    case rel => exact ⟨j + 1, cnt + 1, S3, vn, by omega, by go_num, by go_num, by omega, HEM.out, HM3.out, HS3.out, HF3.out, HV3.out, HL3.out, HX3.out, HT3.out, HN3.out⟩
set_option maxRecDepth 100000 in
set_option maxHeartbeats 6400000 in
theorem qly {w : World} {base p : Nat} {v : Value} {u : RuD} {S : StD} (hM : TrM w base p v u S) (hS : GoodS S) :
  Calls prog 37 #[.pointer (some ⟨p, 0, none⟩)] w fun en w' => en = .returned (.int .i64 (qku S.L : Nat)) ∧ Kept w w' := by
 have NN := qh (qb7 hM hS)
 obtain ⟨gt, ot, ct, rfl, -, hgt, -, hcell, -⟩ := hM.form hS.pos
 have p1 := hM.box.c 1 rfl
 have HM := qh hM
 have HS := qh hS
 have HLN := qh hS.len
 have HNL : Hid (∃ LN, LN = S.L.length) := qh ⟨_, rfl⟩
 obtain ⟨LN, hLN⟩ := HNL.out
 have HN := qh hLN
 rw [← hLN] at p1 HLN
 have HCL := qh hcell
 have HGT := qh hgt
 have HD0 := qh (show ((S.L.drop 0).map NdD.depth).foldl max 0 = qku S.L from rfl)
 generalize qku S.L = DD at *
 clear hM hS hLN hcell hgt HNL
 go_enter func37, ntmps37
 go_wp2_with fail
 refine NN.out.mono ?_
 rintro e w1 ⟨rfl, h1⟩
 replace h1 := h1.symm
 subst h1
 go_wp2_with fail
 go_loopg [3, 13] LN (fun gh v3 v13 wr => ∃ j d : Nat, j + gh = LN ∧ v3 = .int .i64 (d : Int) ∧ v13 = .int .i64 (j : Int) ∧ ((S.L.drop j).map NdD.depth).foldl max d = DD ∧ d ≤ 40 ∧ Kept w wr)
 case atStart => exact ⟨0, 0, by omega, rfl, rfl, HD0.out, by omega, Below.refl _ _⟩
 case round =>
  obtain ⟨j, d, hjg, rfl, rfl, hd, hd4, hk⟩ := hrel
  have HK := qh hk
  have HD := qh hd
  clear hk hd
  cases gk with
  | zero =>
   obtain rfl : j = LN := by omega
   have he := HD.out
   rw [HN.out, List.drop_length] at he
   simp only [List.map_nil, List.foldl_nil] at he
   subst he
   go_wp2_with fail
   go_ret
   exact ⟨rfl, HK.out⟩
  | succ gj =>
   obtain ⟨n, hn⟩ : ∃ n, S.L[j]? = some n := ⟨_, List.getElem?_eq_getElem (by have := HN.out; omega)⟩
   have hjN : (j : Int) < (LN : Int) := by omega
   have hj0 : (0 : Int) ≤ (j : Int) := by omega
   have ewj : IntKind.i64.wrap ((j : Int) + 1) = ((j + 1 : Nat) : Int) := by have := HLN.out; rw [IntWalk.i64_in _ (by omega)]; omega
   have HC := qh (fun i y hy => (HK.out.cells gt (ot + j * 13 + i) HGT.out).trans (show w.cell? ⟨gt, ot + j * 13 + i, none⟩ = some y by rw [Nat.add_assoc]; exact HCL.out j n i y hn hy))
   have hnd := (HS.out.nd j n hn).depth
   have he := HD.out
   rw [List.drop_eq_getElem_cons (show j < S.L.length by have := HN.out; omega), (List.getElem?_eq_some_iff.1 hn).2] at he
   simp only [List.map_cons, List.foldl_cons] at he
   have HE := qh he
   clear he hn HD
   go_upto_region 6 with fail
   refine wp_region_list ?_
   refine wpList_plain rfl fun K hK => ?_
   go_step
   refine hK _ _ ?_
   clear hK K
   refine wpList_plain rfl fun K hK => qav (vs := ndV n) (g := gt) (off := ot + j * 13) (n := 13) _ rfl rfl HC.out rfl underlying91 rfl (by kernel_rfl) (hK _ _ ?_)
   clear hK K HC
   refine wpList_plain rfl fun K hK => ?_
   go_step
   refine hK _ _ ?_
   clear hK K
   have KY := qh (Kept.new HK.out (.cells #[.bool false, .string ⟨#[]⟩, .int .i64 0, .bool false, .string ⟨#[]⟩, .int .i64 0, .int .i64 0, .int .u8 0, .int .i64 0, .int .i64 0, .int .i64 0, .int .i64 0, .int .i64 0] 91))
   have BY := qh (Bx.new wr [.bool false, .string ⟨#[]⟩, .int .i64 0, .bool false, .string ⟨#[]⟩, .int .i64 0, .int .i64 0, .int .u8 0, .int .i64 0, .int .i64 0, .int .i64 0, .int .i64 0, .int .i64 0] 91 wr.heap.size rfl)
   obtain ⟨y, hy⟩ : ∃ y, y = wr.heap.size := ⟨_, rfl⟩
   have HY := qh (show w.heap.size ≤ y by have := HK.out.size; omega)
   rw [← hy] at BY ⊢
   clear hy HK
   generalize World.alloc wr _ = w4 at *
   refine wpList_plain rfl fun K hK => qaa (vs := ndV n) (b := y) (n := 13) _ _ rfl rfl rfl BY.out rfl rfl (by kernel_rfl) rfl (hK _ _ ?_)
   clear hK K
   replace BY := qh (BY.out.row (ndV n))
   replace KY := qh (Kept.row KY.out HY.out (ndV n))
   generalize World.setRow w4 _ _ = w5 at *
   have hc8 := BY.out.c 8 (show (ndV n)[8]? = some (.int .i64 (n.depth : Int)) from rfl)
   obtain ⟨dd, hdd⟩ : ∃ dd, dd = n.depth := ⟨_, rfl⟩
   rw [← hdd] at hc8 HE hnd
   clear hdd BY HY
   go_wp2_with fail
   go_roundg gj
   case measure => omega
   case rel => exact ⟨j + 1, max d dd, by omega, by congr 1; omega, by go_num, HE.out, by omega, KY.out⟩
def qaW (t : SqD → Nat) (depth : Nat) : Nat → StD → StD × Nat
 | 0, S => (S, 0)
 | f + 1, S => if qku S.L < depth then (if (stepD t S).2 = 0 then ((stepD t S).1, 0) else ((qaW t depth f (stepD t S).1).1, (stepD t S).2 + (qaW t depth f (stepD t S).1).2)) else (S, 0)
def qbV (t : SqD → Nat) (depth : Nat) (S : StD) : StD × Nat := qaW t depth 21846 S
theorem qeb {u : RuD} {S : StD} (h : GoodS S) : GoodS (stepD (qaD u) S).1 := qes _ h
theorem qcr {t : SqD → Nat} {S : StD} (h : Whole S) : Whole (stepD t S).1 := qfx _ h
theorem qeL (t : SqD → Nat) (S : StD) : (stepD t S).1.L.length = S.L.length + 4 * (stepD t S).2 := qg1 ..
theorem qeW {u : RuD} {depth : Nat} : ∀ f {S : StD}, GoodS S → GoodS (qaW (qaD u) depth f S).1
 | 0, S, h => h
 | f + 1, S, h => by
  unfold qaW
  split
  ·split
   ·exact qeb h
   ·exact qeW f (qeb h)
  ·exact h
theorem qeC {t : SqD → Nat} {depth : Nat} : ∀ f {S : StD}, Whole S → Whole (qaW t depth f S).1
 | 0, S, h => h
 | f + 1, S, h => by
  unfold qaW
  split
  ·split
   ·exact qcr h
   ·exact qeC f (qcr h)
  ·exact h
section
set_option maxRecDepth 100000
theorem qoY {w : World} {base p : Nat} {v : Value} {u : RuD} {S : StD} {D : Int} (hM : TrM w base p v u S) (hS : GoodS S) (hd : D < 0 ∨ 40 < D) :
  Calls prog 14 #[.pointer (some ⟨p, 0, none⟩), .int .i64 D] w fun en w' => en = .returned (.tuple #[.int .i64 0, .int .i64 2]) ∧ w' = w := by
 have NN := qh (qb7 hM hS)
 clear hM hS
 rcases hd with hd | hd
 ·go_enter func14, ntmps14
  go_wp2_with fail
  refine NN.out.mono ?_
  rintro e w1 ⟨rfl, h1⟩
  replace h1 := h1.symm
  subst h1
  go_wp2_with fail
  exact bodyPost_ret (v := .tuple #[.int .i64 0, .int .i64 2]) (by simp [results, results14, go_sem]) rfl ⟨rfl, rfl⟩
 ·have h0 : ¬ D < 0 := by omega
  go_enter func14, ntmps14
  go_wp2_with fail
  refine NN.out.mono ?_
  rintro e w1 ⟨rfl, h1⟩
  replace h1 := h1.symm
  subst h1
  go_wp2_with fail
  exact bodyPost_ret (v := .tuple #[.int .i64 0, .int .i64 2]) (by simp [results, results14, go_sem]) rfl ⟨rfl, rfl⟩
set_option maxHeartbeats 6400000 in
theorem qnt {w : World} {base p : Nat} {v : Value} {u : RuD} {S : StD} {D : Nat} (hM : TrM w base p v u S) (hS : GoodS S) (hW : Whole S) (hT : T32 w) (hu : u.ok) (hg : 1 < base) (hD : D ≤ 40) :
  Calls prog 14 #[.pointer (some ⟨p, 0, none⟩), .int .i64 (D : Int)] w fun en w' => en = .returned (.tuple #[.int .i64 ((qbV (qaD u) D S).2 : Nat), .int .i64 0]) ∧ qcw w base p v u (qbV (qaD u) D S).1 w' := by
 have NN := qh (qb7 hM hS)
 have HM := qh hM
 have HS := qh hS
 have HW := qh hW
 have HT := qh hT
 have HU := qh hu
 have HG := qh hg
 have HDR := qh (show (qaW (qaD u) D 21846 S).1 = (qbV (qaD u) D S).1 ∧ 0 + (qaW (qaD u) D 21846 S).2 = (qbV (qaD u) D S).2 from ⟨rfl, by rw [Nat.zero_add]; rfl⟩)
 generalize (qbV (qaD u) D S).1 = E1 at *
 generalize (qbV (qaD u) D S).2 = E2 at *
 clear hM hS hW hT hu hg
 have h0 : ¬ (D : Int) < 0 := by omega
 have h40 : ¬ (40 : Int) < (D : Int) := by omega
 go_enter func14, ntmps14
 go_wp2_with fail
 refine NN.out.mono ?_
 rintro e w1 ⟨rfl, h1⟩
 replace h1 := h1.symm
 subst h1
 go_wp2_with fail
 go_loopg [6] 21846 (fun gh v6 wr => ∃ (all : Nat) (Sm : StD) (vm : Value), v6 = .int .i64 (all : Int) ∧ ((qaW (qaD u) D gh Sm).1 = E1 ∧ all + (qaW (qaD u) D gh Sm).2 = E2) ∧ 4 * all ≤ Sm.L.length ∧ 87385 ≤ Sm.L.length + 4 * gh ∧ TrM wr base p vm u Sm ∧ GoodS Sm ∧ Whole Sm ∧ Far (TrB p v) w wr ∧
  (vm.ownBlock = v.ownBlock ∨ ∀ i, vm.ownBlock = some i → w.heap.size ≤ i) ∧ T32 wr)
 case atStart => exact ⟨0, S, v, rfl, HDR.out, by omega, by have := HS.out.pos; omega, HM.out, HS.out, HW.out, Far.refl _ _, .inl rfl, HT.out⟩
 case round =>
  clear HDR
  obtain ⟨all, Sm, vm, rfl, hE, hal, hfu, hM2, hS2, hW2, hF2, hv2, hT2⟩ := hrel
  have HE := qh hE
  have HAL := qh hal
  have HFU := qh hfu
  have HM2 := qh hM2
  have HS2 := qh hS2
  have HW2 := qh hW2
  have HF2 := qh hF2
  have HV2 := qh hv2
  have HT2 := qh hT2
  have HLN := qh hS2.len
  have DP := qh (qly hM2 hS2)
  clear hE hal hfu hM2 hS2 hW2 hF2 hv2 hT2
  cases gk with
  | zero => have h1 := HFU.out; have h2 := HLN.out; omega
  | succ gj =>
   obtain ⟨md, hmd⟩ : ∃ md, md = qku Sm.L := ⟨_, rfl⟩
   rw [← hmd] at DP
   have he := HE.out
   unfold qaW at he
   rw [← hmd] at he
   clear hmd HE
   by_cases hlt : md < D
   ·rw [if_pos hlt] at he
    have hltI : (md : Int) < (D : Int) := by omega
    have HEN := qh he
    clear he
    go_wp2_with fail
    refine DP.out.mono ?_
    rintro e w3 ⟨rfl, hk3⟩
    have HM3 := qh (HM2.out.kept hk3)
    have HT3 := qh (HT2.out.kept hk3)
    have HF3 := qh (HF2.out.then hk3)
    have ST := qh (qiB HM3.out HS2.out HW2.out HT3.out HU.out HG.out)
    have HSZ := qh hk3.size
    clear hk3 HM2 HT2 DP
    have hgs := qeb (u := u) HS2.out
    have hws := qcr (t := qaD u) HW2.out
    have hls := qeL (qaD u) Sm
    generalize (stepD (qaD u) Sm).1 = S4 at *
    generalize (stepD (qaD u) Sm).2 = n4 at *
    have HS4 := qh hgs
    have HW4 := qh hws
    have HL4 := qh hls
    clear hgs hws hls
    go_wp2_with fail
    refine ST.out.mono ?_
    rintro e w4 ⟨rfl, v4, hM4, hF4, hv4⟩
    have HM4 := qh hM4
    have HT4 := qh (HT3.out.base hF4 HG.out HM3.out.ge HM3.out.own)
    have HF4 := qh (HF3.out.post HV2.out hF4)
    have HV4 := qh (qfp HF3.out.size HV2.out hv4)
    clear hM4 hF4 hv4 HM3 HT3 HF3 HV2 ST HF2
    by_cases hn : n4 = 0
    ·have he := HEN.out
     rw [if_pos hn] at he
     simp only [Nat.add_zero] at he
     obtain ⟨rfl, rfl⟩ := he
     have hnI : (((n4 : Nat) : Int) == 0) = true := by subst hn; rfl
     clear HEN hn
     go_wp2_with fail
     exact bodyPost_ret (v := .tuple #[.int .i64 (all : Int), .int .i64 0]) (by simp [results, results14, go_sem]) rfl ⟨rfl, v4, HM4.out, HF4.out, HV4.out⟩
    ·have he := HEN.out
     rw [if_neg hn] at he
     simp only [← Nat.add_assoc] at he
     have HE4 := qh he
     have hnI : (((n4 : Nat) : Int) == 0) = false := beq_eq_false_iff_ne.2 (by omega)
     have HNP := qh hn
     have ew : IntKind.i64.wrap ((all : Int) + (n4 : Int)) = ((all + n4 : Nat) : Int) := by have h1 := HAL.out; have h2 := HLN.out; have h3 := HL4.out; have h4 := HS4.out.len; rw [IntWalk.i64_in _ (by omega)]; omega
     clear HEN he hn
     go_wp2_with fail
     go_roundg gj
     case measure => omega
     case rel => exact ⟨all + n4, S4, v4, by go_num, HE4.out, by have h1 := HAL.out; have h2 := HL4.out; omega, by have h1 := HFU.out; have h2 := HL4.out; have h3 := HNP.out; omega, HM4.out, HS4.out, HW4.out, HF4.out, HV4.out, HT4.out⟩
   ·rw [if_neg hlt] at he
    simp only [Nat.add_zero] at he
    obtain ⟨rfl, rfl⟩ := he
    have hltI : ¬ (md : Int) < (D : Int) := by omega
    go_wp2_with fail
    refine DP.out.mono ?_
    rintro e w3 ⟨rfl, hk3⟩
    have HM3 := qh (HM2.out.kept hk3)
    have HF3 := qh (HF2.out.then hk3)
    clear hk3 HM2 DP
    go_wp2_with fail
    exact bodyPost_ret (v := .tuple #[.int .i64 (all : Int), .int .i64 0]) (by simp [results, results14, go_sem]) rfl ⟨rfl, vm, HM3.out, HF3.out, HV2.out⟩
end
end Go.Proofs.YtfdnledkcongaaaGreatDoor
