/- Texts of one claim laid together: LwB, Awk, DisW, OpR, RefineDiscF, FacR. -/
import Derived.Test.YtfdnledkcongaaaGreatDoorQ14
import Derived.Test.YtfdnledkcongaaaGreatDoorRows
import Derived.OpenShut
import Derived.LaidMore
import Derived.ProofKit
import Derived.Stop.Joined
import Derived.Deep.Slices
import Derived.ChangeSame
import Derived.Test.YtfdnledkcongaaaGreatDoorCards
import Derived.JoinedOf
set_option linter.all false
namespace Go.Proofs.YtfdnledkcongaaaGreatDoor
open Go.RowKit Go.Proofs.Tryz
section
attribute [local go_sem] qah qae
structure qdn.ok (s : qdn) : Prop where
 a : s.a = 0
 b : s.b = 0
 d : s.d = 1 ∨ s.d = 2
 re : s.g.re.ok
 im : s.g.im.ok
def qcT (n : Nat) (w : World) (en : Ending) (w' : World) : Prop := ∃ b : Bool, en = .returned (.bool b) ∧ (b = false → n ≤ 60) ∧ Kept w w'
theorem qcT.of {n : Nat} {w w' : World} (b : Bool) (h : b = false → n ≤ 60) (hk : Kept w w') : qcT n w (.returned (.bool b)) w' := ⟨b, rfl, h, hk⟩
theorem Kept.far {s : Nat → Prop} {w a b : World} (hk : Kept w a) (hf : Far s a b) (hs : ∀ k, s k → w.heap.size ≤ k) : Kept w b :=
 ⟨hf.os.trans hk.os, hf.tape.trans hk.tape, hf.output.trans hk.output, Nat.le_trans hk.size hf.size, fun i hi => (hf.block i (Nat.lt_of_lt_of_le hi hk.size) (fun e => by have := hs i e; omega)).trans (hk.block i hi)⟩
theorem qny {s : SqD} (h : ¬ (sqB s = true ∧ (qaj s).2 = 0)) : (qgm s).2 ≠ 0 := by
 unfold qgm
 split
 ·rename_i h1; exact fun h2 => h ⟨h1, h2⟩
 ·show (240 : Int) ≠ 0; decide
theorem RfM.qfW {W : World} {base p : Nat} {v : Value} {u : RuD} {L : List NdR} (h : RfM W base p v u L) : ∀ k, TrB p v k → base ≤ k := by
 rintro k (rfl | hk)
 ·exact h.ge
 ·exact (h.own.lt k hk).1
structure qi1 (w : World) (tb base p : Nat) (u : RuD) (W : World) (v : Value) (L : List NdR) : Prop where
 tree : RfM W base p v u L
 good : qbm L
 two : Bx W tb [.pointer (some ⟨p, 0, none⟩), .pointer none]
 off : ∀ i, TrB p v i → i ≠ tb
 kept : Kept w W
theorem qi1.keep {w W W' : World} {tb base p : Nat} {u : RuD} {v : Value} {L : List NdR} (h : qi1 w tb base p u W v L) (hk : Kept W W') : qi1 w tb base p u W' v L :=
 ⟨h.tree.kept hk, h.good, h.two.kept hk, h.off, h.kept.trans' hk⟩
theorem qi1.post {w W W' : World} {tb base p : Nat} {u : RuD} {v : Value} {L L' : List NdR} (h : qi1 w tb base p u W v L) (hb : w.heap.size ≤ base) (hp : qf9 W base p v u L' W') : ∃ v', qi1 w tb base p u W' v' L' := by
 obtain ⟨hg, v', hM, hF, hv⟩ := hp
 have hlt := h.two.lt
 refine ⟨v', hM, hg, h.two.to hF (fun e => h.off _ e rfl), fun i hi => ?_, h.kept.far hF (fun k hk => Nat.le_trans hb (h.tree.qfW k hk))⟩
 rcases hi with rfl | hi
 ·exact h.off _ (.inl rfl)
 ·rcases hv with e | e
  ·exact h.off i (.inr (e ▸ hi))
  ·have := e i hi; omega
set_option maxRecDepth 100000 in
set_option maxHeartbeats 6400000 in
theorem qlI {w : World} {s : SqD} {u : RuD} {A : Option Addr} {c : Nat} {l : List qdn} (hs : s.ok) (hu : u.ok) (hl : ∀ x ∈ l, x.ok) (hr : Row w A (qcm l)) (hc : l.length ≤ c) (hcm : c ≤ maxLen) :
  Calls prog 8 #[.agg #[.bool s.left.neg, .string s.left.n, .int .i64 s.left.e, .bool s.low.neg, .string s.low.n, .int .i64 s.low.e, .int .i64 s.e], .agg (ruL u).toArray, .slice A l.length c] w (qcT l.length w) := by
 have NW := qh (fun W => qnw (w := W) s hs hu)
 have HR := qh hr
 have HL := qh hl
 have q1 := hs.left.1
 have q2 := hs.low.1
 have q3 := hu.re.1
 have q4 := hu.im.1
 have q5 := hu.r.1
 have hml : maxLen = 9223372036854775807 := rfl
 obtain ⟨N, hN⟩ : ∃ N, N = l.length := ⟨_, rfl⟩
 have HN := qh hN
 rw [← hN] at hc ⊢
 obtain ⟨⟨a0, a1, a2⟩, ⟨a3, a4, a5⟩, a6⟩ := s
 have HU := qh hu
 have DN := qh (fun W base p v L D (hM : RfM W base p v u L) (hS : qbm L) => qlH (D := D) (most := 300) hM hS hu)
 have PT := qh (fun W base p v L (g : GsD) (hM : RfM W base p v u L) (hS : qbm L) h1 h2 => qln g hM hS hu h1 h2)
 obtain ⟨U, hU⟩ : ∃ U, U = u := ⟨_, rfl⟩
 rw [← hU] at NW DN PT
 have HUU := qh hU
 obtain ⟨uk, ⟨⟨u0, u1, u2⟩, ⟨u3, u4, u5⟩⟩, ⟨u6, u7, u8⟩, ux, uy⟩ := u
 simp only at q1 q2 q3 q4 q5 NW ⊢
 obtain ⟨t1, ew1⟩ : ∃ t, IntKind.i64.wrap ((a1.size : Int) + (a4.size : Int)) = t := ⟨_, rfl⟩
 obtain ⟨t2, ew2⟩ : ∃ t, IntKind.i64.wrap (t1 + (u1.size : Int)) = t := ⟨_, rfl⟩
 obtain ⟨t3, ew3⟩ : ∃ t, IntKind.i64.wrap (t2 + (u4.size : Int)) = t := ⟨_, rfl⟩
 obtain ⟨t4, ew4⟩ : ∃ t, IntKind.i64.wrap (t3 + (u7.size : Int)) = t := ⟨_, rfl⟩
 clear hs hu hl hr q1 q2 q3 q4 q5 hml hN hU
 by_cases h60 : 60 < N
 ·have h60I : (60 : Int) < (N : Int) := by omega
  go_enter func8, ntmps8
  go_upto_region 1 with fail
  obtain ⟨b, w1, hw, hb, B0, B1, K1, HB⟩ := qa7 w (LC3 a0 a1 a2 a3 a4 a5 a6) 26 [.int .i64 uk, .bool u0, .string u1, .int .i64 u2, .bool u3, .string u4, .int .i64 u5, .bool u6, .string u7, .int .i64 u8, .float .f64 ux, .float .f64 uy] 31
  rw [← hw, ← hb]; clear hw hb
  go_wp2_with fail
  exact bodyPost_ret (v := .bool true) (by simp [results, results8, go_sem]) rfl (qcT.of _ (fun h => by cases h) K1.out)
 have h60I : ¬ (60 : Int) < (N : Int) := by omega
 have H60 := qh (show N ≤ 60 by omega)
 clear h60
 by_cases h64 : (64 : Int) < t4
 ·go_enter func8, ntmps8
  go_upto_region 1 with fail
  obtain ⟨b, w1, hw, hb, B0, B1, K1, HB⟩ := qa7 w (LC3 a0 a1 a2 a3 a4 a5 a6) 26 [.int .i64 uk, .bool u0, .string u1, .int .i64 u2, .bool u3, .string u4, .int .i64 u5, .bool u6, .string u7, .int .i64 u8, .float .f64 ux, .float .f64 uy] 31
  rw [← hw, ← hb]; clear hw hb
  obtain ⟨c0, c1, c2, c3, c4, c5, c6⟩ := B0.out.c7
  have d2 := B1.out.c 2 rfl
  have d5 := B1.out.c 5 rfl
  have d8 := B1.out.c 8 rfl
  go_wp2_with fail
  exact bodyPost_ret (v := .bool true) (by simp [results, results8, go_sem]) rfl (qcT.of _ (fun h => by cases h) K1.out)
 go_enter func8, ntmps8
 go_upto_region 1 with fail
 obtain ⟨b, w1, hw, hb, B0, B1, K1, HB⟩ := qa7 w (LC3 a0 a1 a2 a3 a4 a5 a6) 26 [.int .i64 uk, .bool u0, .string u1, .int .i64 u2, .bool u3, .string u4, .int .i64 u5, .bool u6, .string u7, .int .i64 u8, .float .f64 ux, .float .f64 uy] 31
 rw [← hw, ← hb]; clear hw hb
 obtain ⟨c0, c1, c2, c3, c4, c5, c6⟩ := B0.out.c7
 have d2 := B1.out.c 2 rfl
 have d5 := B1.out.c 5 rfl
 have d8 := B1.out.c 8 rfl
 go_upto_region 3 with fail
 clear d2 d5 d8 ew1 ew2 ew3 ew4 c0 c1 c2 c3 c4 c5 c6
 refine wp_region_list ?_
 refine wpList_plain rfl fun K hK => qai (vs := (LC3 a0 a1 a2 a3 a4 a5 a6)) (b := b) (n := 7) _ rfl rfl B0.out rfl underlying26 rfl (by kernel_rfl) (hK _ _ ?_)
 clear hK K
 refine wpList_plain rfl fun K hK => qai (vs := [.int .i64 uk, .bool u0, .string u1, .int .i64 u2, .bool u3, .string u4, .int .i64 u5, .bool u6, .string u7, .int .i64 u8, .float .f64 ux, .float .f64 uy]) (b := b + 1) (n := 12) _ rfl rfl B1.out rfl underlying31 rfl (by kernel_rfl) (hK _ _ ?_)
 clear hK K
 refine wpList_plain rfl fun K hK => ?_
 go_step
 have hnw := NW.out w1
 rw [show (ruL U).toArray = #[.int .i64 uk, .bool u0, .string u1, .int .i64 u2, .bool u3, .string u4, .int .i64 u5, .bool u6, .string u7, .int .i64 u8, .float .f64 ux, .float .f64 uy] by rw [HUU.out]] at hnw
 refine hnw.mono ?_
 rintro en w3 ⟨hk3, hn⟩
 have K3 := qh (K1.out.trans' hk3)
 clear NW hnw
 by_cases hcond : sqB ⟨⟨a0, a1, a2⟩, ⟨a3, a4, a5⟩, a6⟩ = true ∧ (qaj ⟨⟨a0, a1, a2⟩, ⟨a3, a4, a5⟩, a6⟩).2 = 0
 ·rw [if_pos hcond] at hn
  obtain ⟨p, v, L, rfl, hM, hG⟩ := hn
  have HM := qh hM
  have HG := qh hG
  have HBA := qh (show w.heap.size ≤ w1.heap.size from K1.out.size)
  obtain ⟨base, hbase⟩ : ∃ base, base = w1.heap.size := ⟨_, rfl⟩
  rw [← hbase] at HM HBA
  clear hcond hM hG hbase hk3
  refine hK _ _ ?_
  clear hK K
  refine wpList_plain rfl fun K hK => ?_
  go_step
  refine hK _ _ ?_
  clear hK K
  refine wpList_plain rfl fun K hK => ?_
  go_step
  refine hK _ _ ?_
  clear hK K
  refine wpList_plain rfl fun K hK => ?_
  go_step
  refine hK _ _ ?_
  clear hK K
  refine wpList_plain rfl fun K hK => ?_
  go_step
  refine hK _ _ ?_
  clear hK K
  refine wpList_plain rfl fun K hK => ?_
  go_step
  refine hK _ _ ?_
  clear hK K
  go_upto_region 6 with fail
  refine wp_region_list ?_
  refine wpList_plain rfl fun K hK => ?_
  go_step
  refine hK _ _ ?_
  clear hK K
  refine wpList_plain rfl fun K hK => ?_
  go_step
  refine hK _ _ ?_
  clear hK K
  refine wpList_plain rfl fun K hK => ?_
  go_step
  refine hK _ _ ?_
  clear hK K
  have KT := Kept.new (Below.refl _ w3) (.cells #[.pointer none, .pointer none] 71)
  have K4 := qh (K3.out.trans' KT)
  have BT := qh (Bx.new w3 [.pointer none, .pointer none] 71 w3.heap.size rfl)
  have HM4 := qh (HM.out.kept KT)
  have HOF := qh (fun i hi => HM.out.cellsB i hi)
  obtain ⟨tb, htb⟩ : ∃ tb, tb = w3.heap.size := ⟨_, rfl⟩
  have HTB := qh (show w.heap.size ≤ tb by have := K3.out.size; omega)
  rw [← htb] at BT HOF ⊢
  clear htb KT HM K3
  generalize World.alloc w3 _ = w4 at *
  refine wpList_plain rfl fun K hK => qaa (vs := [.pointer (some ⟨p, 0, none⟩), .pointer none]) (b := tb) (n := 2) _ _ rfl rfl rfl BT.out rfl rfl (by kernel_rfl) rfl (hK _ _ ?_)
  clear hK K
  have KTR := qh (Kept.row K4.out HTB.out [.pointer (some ⟨p, 0, none⟩), .pointer none])
  have BTR := qh (BT.out.row [.pointer (some ⟨p, 0, none⟩), .pointer none])
  have HMR : Hid (RfM (World.setRow w4 tb #[.pointer (some ⟨p, 0, none⟩), .pointer none]) base p v U L) := qh ⟨HM4.out.box.off (g := tb) (by have := HOF.out p (.inl rfl); omega) [.pointer (some ⟨p, 0, none⟩), .pointer none], HM4.out.own.keep (by simp [World.setRow]) (fun g hg o => by
   have hne : g ≠ tb := by have := HOF.out g (.inr hg); omega
   have e : (World.setRow w4 tb #[.pointer (some ⟨p, 0, none⟩), .pointer none]).heap[g]? = w4.heap[g]? := setRow_other _ _ _ _ hne
   exact ⟨World.cell?_of_block (a := ⟨g, o, none⟩) e, World.frozen?_of_block (a := ⟨g, o, none⟩) e⟩), HM4.out.ge, HM4.out.off⟩
  have HT0 := qh (show qi1 w tb base p U (World.setRow w4 tb #[.pointer (some ⟨p, 0, none⟩), .pointer none]) v L from ⟨HMR.out, HG.out, BTR.out, fun i hi => by have := HOF.out i hi; omega, KTR.out⟩)
  clear KTR BTR HMR BT HM4 K4 HG HOF
  generalize World.setRow w4 tb #[.pointer (some ⟨p, 0, none⟩), .pointer none] = w5 at *
  go_wp2_with fail
  go_loopg [10] N (fun gh v10 wr => ∃ (j : Nat) (vm : Value) (Lm : List NdR), j + gh = N ∧ v10 = .int .i64 (j : Int) ∧ qi1 w tb base p U wr vm Lm)
  case atStart => exact ⟨0, v, L, by omega, rfl, HT0.out⟩
  case round =>
   clear HT0
   obtain ⟨j, vm, Lm, hjg, rfl, ht⟩ := hrel
   have HT := qh ht
   clear ht
   cases gk with
   | zero =>
    obtain rfl : j = N := by omega
    go_wp2_with fail
    exact bodyPost_ret (v := .bool false) (by simp [results, results8, go_sem]) rfl (qcT.of _ (fun _ => H60.out) HT.out.kept)
   | succ gj =>
    obtain ⟨x, hx⟩ : ∃ x, l[j]? = some x := ⟨_, List.getElem?_eq_getElem (by have := HN.out; omega)⟩
    have hjN : (j : Int) < (N : Int) := by omega
    have hj0 : (0 : Int) ≤ (j : Int) := by omega
    have ewj : IntKind.i64.wrap ((j : Int) + 1) = ((j + 1 : Nat) : Int) := by have := H60.out; rw [IntWalk.i64_in _ (by omega)]; omega
    have hxo := HL.out x (List.mem_of_getElem? hx)
    obtain ⟨g, off, rfl, hcs⟩ : ∃ g off, A = some ⟨g, off, none⟩ ∧ ∀ i y, (stV x)[i]? = some y → wr.cell? ⟨g, off + j * 11 + i, none⟩ = some y := by
     rcases (HR.out.kept HT.out.kept) with h | ⟨g, off, e, hx2⟩
     ·have := qbY l; rw [h] at this; have h2 := (List.getElem?_eq_some_iff.1 hx).1; simp at this; omega
     ·exact ⟨g, off, e, fun i y hy => by rw [Nat.add_assoc]; exact hx2 _ _ ((qfv l j x i hx (List.getElem?_eq_some_iff.1 hy).1).trans hy)⟩
    have HCS := qh hcs
    have HXO := qh hxo
    clear hx hcs hxo
    go_upto_region 10 with fail
    refine wp_region_list ?_
    refine wpList_plain rfl fun K hK => ?_
    go_step
    refine hK _ _ ?_
    clear hK K
    refine wpList_plain rfl fun K hK => ?_
    go_step
    refine hK _ _ ?_
    clear hK K
    refine wpList_plain rfl fun K hK => ?_
    go_step
    refine hK _ _ ?_
    clear hK K
    refine wpList_plain rfl fun K hK => qav (vs := stV x) (g := g) (off := off + j * 11) (n := 11) _ rfl rfl HCS.out rfl underlying37 rfl (by kernel_rfl) (hK _ _ ?_)
    clear hK K HCS
    refine wpList_plain rfl fun K hK => ?_
    go_step
    refine hK _ _ ?_
    clear hK K
    have KY := qh (Kept.new (Below.refl _ wr) (.cells ZL5.toArray 37))
    have BY := qh (Bx.new wr ZL5 37 wr.heap.size rfl)
    obtain ⟨y, hy⟩ : ∃ y, y = wr.heap.size := ⟨_, rfl⟩
    have HY := qh (show wr.heap.size ≤ y by omega)
    rw [← hy] at BY ⊢
    clear hy
    generalize World.alloc wr _ = w6 at *
    refine wpList_plain rfl fun K hK => qaa (vs := stV x) (b := y) (n := 11) _ _ rfl rfl rfl BY.out rfl rfl (by kernel_rfl) rfl (hK _ _ ?_)
    clear hK K
    replace BY := qh (BY.out.row (stV x))
    replace KY := qh (Kept.row KY.out HY.out (stV x))
    generalize World.setRow w6 _ _ = w7 at *
    have HT7 := qh (HT.out.keep KY.out)
    have HYO := qh (show ∀ i, TrB p vm i → i < y from fun i hi => by have h1 := HT.out.tree.cellsB i hi; have h2 := HY.out; omega)
    obtain ⟨xd, xa, xb, xn, ⟨⟨r0, r1, r2⟩, ⟨i0, i1, i2⟩⟩, xt⟩ := x
    have hxo := HXO.out
    obtain ⟨ha, hb, hd, hre, him⟩ := hxo
    simp only at ha hb hd
    subst ha; subst hb
    have HRE := qh hre
    have HIM := qh him
    have BY2 : Hid (Bx w7 y [.int .i64 xd, .int .i64 0, .int .i64 0, .int .i64 xn, .bool r0, .string r1, .int .i64 r2, .bool i0, .string i1, .int .i64 i2, .string xt]) := BY
    clear KY BY HY HT HXO hre him
    go_upto_region 11 with fail
    refine wp_region_quiet (C := (KB w7)) (by kernel_rfl) (by kernel_rfl) ?_ ?_
    ·exact ⟨(Below.refl _ w7).drew⟩
    dsimp only [List.take]
    refine wQ (some 71) ?_ fun wr hw => (by (have c1 := (BY2.out.kept hw.k).c 1 rfl; have c2 := (BY2.out.kept hw.k).c 2 rfl); go_simp; (try with_reducible rfl))
    refine wQ (some 72) ?_ fun wr hw => (by (have c1 := (BY2.out.kept hw.k).c 1 rfl; have c2 := (BY2.out.kept hw.k).c 2 rfl); go_simp; (try with_reducible rfl))
    refine wQ (some 73) ?_ fun wr hw => (by (have c1 := (BY2.out.kept hw.k).c 1 rfl; have c2 := (BY2.out.kept hw.k).c 2 rfl); go_simp; (try with_reducible rfl))
    refine wQ (some 74) ?_ fun wr hw => (by (have c1 := (BY2.out.kept hw.k).c 1 rfl; have c2 := (BY2.out.kept hw.k).c 2 rfl); go_simp; (try with_reducible rfl))
    refine wQ (some 75) ?_ fun wr hw => (by (have c1 := (BY2.out.kept hw.k).c 1 rfl; have c2 := (BY2.out.kept hw.k).c 2 rfl); go_simp; (try with_reducible rfl))
    refine wQ (some 76) ?_ fun wr hw => (by (have c1 := (BY2.out.kept hw.k).c 1 rfl; have c2 := (BY2.out.kept hw.k).c 2 rfl); go_simp; (try with_reducible rfl))
    refine wQ (some 12) ?_ fun wr hw => (by (have c1 := (BY2.out.kept hw.k).c 1 rfl; have c2 := (BY2.out.kept hw.k).c 2 rfl); go_simp; (try with_reducible rfl))
    refine wQ (some 13) ?_ fun wr hw => (by (have c1 := (BY2.out.kept hw.k).c 1 rfl; have c2 := (BY2.out.kept hw.k).c 2 rfl); go_simp; (try with_reducible rfl))
    refine wpQuiet_nil ?_
    intro wq hq
    have KQ := qh hq.k
    rw [show bits BinOp.and IntKind.i64 0 1 = 0 from rfl]
    have HT8 := qh (HT7.out.keep KQ.out)
    have BY8 := qh (BY2.out.kept KQ.out)
    clear HT7 BY2 KQ hq
    have tc0 := HT8.out.two.c 0 rfl
    have yc0 := BY8.out.c 0 rfl
    have yc3 := BY8.out.c 3 rfl
    rcases hd with rfl | rfl
    ·go_upto_region 29 with fail
     have hdn := DN.out wq base p vm Lm xn HT8.out.tree HT8.out.good
     refine wp_region_list ?_
     refine wpList_plain rfl fun K hK => ?_
     go_step
     refine hK _ _ ?_
     clear hK K
     refine wpList_plain rfl fun K hK => ?_
     go_step
     refine hK _ _ ?_
     clear hK K
     refine wpList_plain rfl fun K hK => ?_
     go_step
     refine hK _ _ ?_
     clear hK K
     refine wpList_plain rfl fun K hK => ?_
     go_step
     refine hdn.mono ?_
     clear hdn
     rintro en w9 ⟨dn, de, db, L9, rfl, hle, hp⟩
     obtain ⟨v9, ht9⟩ := HT8.out.post HBA.out hp
     have HT9 := qh ht9
     clear hp ht9 HT8 BY8 hle
     refine hK _ _ ?_
     clear hK K
     refine wpList_plain rfl fun K hK => ?_
     go_step
     refine hK _ _ ?_
     clear hK K
     refine wpList_plain rfl fun K hK => ?_
     go_step
     refine hK _ _ ?_
     clear hK K
     refine wpList_plain rfl fun K hK => ?_
     go_step
     refine hK _ _ ?_
     clear hK K
     refine wpList_plain rfl fun K hK => ?_
     go_step
     refine hK _ _ ?_
     clear hK K
     refine wpList_plain rfl fun K hK => ?_
     go_step
     refine hK _ _ ?_
     clear hK K
     refine wpList_plain rfl fun K hK => ?_
     go_step
     refine hK _ _ ?_
     clear hK K
     refine wpList_plain rfl fun K hK => ?_
     go_step
     refine hK _ _ ?_
     clear hK K
     cases db with
     | true =>
      go_wp2_with fail
      exact bodyPost_ret (v := .bool true) (by simp [results, results8, go_sem]) rfl (qcT.of _ (fun h => by cases h) HT9.out.kept)
     | false =>
      obtain ⟨g9, o9, c9, rfl, -⟩ := HT9.out.tree.form HT9.out.good.pos
      have pc := HT9.out.tree.box.c 12 rfl
      obtain ⟨n9, h9⟩ : ∃ n9, n9 = L9.length := ⟨_, rfl⟩
      rw [← h9] at pc HT9
      by_cases h600 : (600 : Int) < (n9 : Int)
      ·go_wp2_with fail
       exact bodyPost_ret (v := .bool true) (by simp [results, results8, go_sem]) rfl (qcT.of _ (fun h => by cases h) HT9.out.kept)
      ·go_wp2_with fail
       go_roundg gj
       case measure => omega
       case rel => exact ⟨j + 1, _, L9, by omega, rfl, HT9.out⟩
    ·go_upto_region 33 with fail
     have hpt := PT.out wq base p vm Lm ⟨⟨r0, r1, r2⟩, ⟨i0, i1, i2⟩⟩ HT8.out.tree HT8.out.good HRE.out HIM.out
     refine wp_region_list ?_
     refine wpList_plain rfl fun K hK => ?_
     go_step
     refine hK _ _ ?_
     clear hK K
     refine wpList_plain rfl fun K hK => ?_
     go_step
     refine hK _ _ ?_
     clear hK K
     refine wpList_plain rfl fun K hK => qav (vs := (LC1 r0 r1 r2 i0 i1 i2)) (g := y) (off := 4) (n := 6) _ rfl rfl (Bx.at_ BY8.out 4 6) rfl underlying28 rfl (by kernel_rfl) (hK _ _ ?_)
     clear hK K
     refine wpList_plain rfl fun K hK => ?_
     go_step
     refine hpt.mono ?_
     clear hpt
     rintro en w9 ⟨db, de, L9, rfl, hle, hp⟩
     obtain ⟨v9, ht9⟩ := HT8.out.post HBA.out hp
     have HT9 := qh ht9
     clear hp ht9 HT8 BY8 hle
     refine hK _ _ ?_
     clear hK K
     obtain ⟨g9, o9, c9, rfl, -⟩ := HT9.out.tree.form HT9.out.good.pos
     have pc := HT9.out.tree.box.c 12 rfl
     obtain ⟨n9, h9⟩ : ∃ n9, n9 = L9.length := ⟨_, rfl⟩
     rw [← h9] at pc HT9
     by_cases h600 : (600 : Int) < (n9 : Int)
     ·go_wp2_with fail
      exact bodyPost_ret (v := .bool true) (by simp [results, results8, go_sem]) rfl (qcT.of _ (fun h => by cases h) HT9.out.kept)
     ·go_wp2_with fail
      go_roundg gj
      case measure => omega
      case rel => exact ⟨j + 1, _, L9, by omega, rfl, HT9.out⟩
 ·rw [if_neg hcond] at hn
  have hne := qny hcond
  obtain ⟨ce, hce⟩ : ∃ ce, ce = (qgm ⟨⟨a0, a1, a2⟩, ⟨a3, a4, a5⟩, a6⟩).2 := ⟨_, rfl⟩
  rw [← hce] at hn hne
  subst hn
  have hneb : (ce != 0) = true := by simpa using hne
  clear hcond hce hk3
  refine hK _ _ ?_
  clear hK K
  refine wpList_plain rfl fun K hK => ?_
  go_step
  refine hK _ _ ?_
  clear hK K
  refine wpList_plain rfl fun K hK => ?_
  go_step
  refine hK _ _ ?_
  clear hK K
  refine wpList_plain rfl fun K hK => ?_
  go_step
  refine hK _ _ ?_
  clear hK K
  refine wpList_plain rfl fun K hK => ?_
  go_step
  refine hK _ _ ?_
  clear hK K
  refine wpList_plain rfl fun K hK => ?_
  go_step
  refine hK _ _ ?_
  clear hK K
  go_wp2_with fail
  exact bodyPost_ret (v := .bool false) (by simp [results, results8, go_sem]) rfl (qcT.of _ (fun _ => H60.out) K3.out)
end
theorem TrM.qfW {W : World} {base p : Nat} {v : Value} {u : RuD} {S : StD} (h : TrM W base p v u S) : ∀ k, TrB p v k → base ≤ k := by
 rintro k (rfl | hk)
 ·exact h.ge
 ·exact (h.own.lt k hk).1
def awU : RuD := ⟨1, ⟨⟨false, ⟨#[]⟩, 0⟩, ⟨false, ⟨#[]⟩, 0⟩⟩, ⟨false, ⟨#[]⟩, 0⟩, 4607182418800017408, 4602678819172646912⟩
def awQ : SqD := ⟨⟨false, ⟨#[]⟩, 0⟩, ⟨false, ⟨#[]⟩, 0⟩, 1⟩
theorem qnE : awU.ok := ⟨by decide, by decide, ⟨by decide, by decide, by decide⟩, ⟨by decide, by decide, by decide⟩, ⟨by decide, by decide, by decide⟩, by decide, by decide⟩
theorem qoO : awQ.ok := ⟨⟨by decide, by decide, by decide⟩, ⟨by decide, by decide, by decide⟩, by decide, by decide⟩
theorem qgB : sqB awQ = true ∧ (qaj awQ).2 = 0 := ⟨by decide +kernel, by decide +kernel⟩
theorem qor : (stepD (qaD awU) (qdB awU awQ)).2 = 1 := by decide +kernel
theorem qnk : bytesD (stepD (qaD awU) (qdB awU awQ)).1 = [112, 117, 111, 117, 111] := by decide +kernel
set_option maxRecDepth 100000 in
set_option maxHeartbeats 3200000 in
theorem qlF {w : World} (hT : T32 w) (hg : 1 < w.heap.size) :
  Calls prog 6 #[] w fun en w' => en = .returned (.bool true) ∧ Kept w w' := by
 have NW : Hid (Calls prog 9 #[.agg #[.bool false, .string ⟨#[]⟩, .int .i64 0, .bool false, .string ⟨#[]⟩, .int .i64 0, .int .i64 1], .iface 31 (.agg #[.int .i64 1, .bool false, .string ⟨#[]⟩, .int .i64 0, .bool false, .string ⟨#[]⟩, .int .i64 0, .bool false, .string ⟨#[]⟩, .int .i64 0, .float .f64 4607182418800017408, .float .f64 4602678819172646912])] w (qiv w awU awQ)) := qh (new_any awQ qoO qnE hT)
 have HT := qh hT
 have HG := qh hg
 clear hT hg
 go_enter func6, ntmps6
 go_upto_region 4 with (go_at_call 9; (with_reducible refine NW.out.mono ?_); rintro e w3 ⟨hk3, hn⟩; rw [if_pos qgB] at hn; obtain ⟨p, v, rfl, hM⟩ := hn; have HT3 := qh (HT.out.kept hk3); have HM := qh hM; have K3 := qh hk3; clear hM hk3)
 have hst := qiB HM.out (qec qgB.1) (qdN _ _) HT3.out qnE HG.out
 rw [qor] at hst
 have HSG := qh (qeb (u := awU) (qec (u := awU) qgB.1))
 have HSW := qh (qcr (t := qaD awU) (qdN awU awQ))
 have HAB := qh qnk
 generalize (stepD (qaD awU) (qdB awU awQ)).1 = S1 at *
 have HST := qh hst
 clear hst
 go_upto_region 5 with (go_at_call 24; (with_reducible refine HST.out.mono ?_); rintro e w4 ⟨rfl, hp⟩; obtain ⟨v4, hM4, hF4, -⟩ := hp; have HM4 := qh hM4; have K4 := qh (K3.out.far hF4 HM.out.qfW); clear hM4 hF4)
 have hb := qgL HM4.out HSG.out HSW.out
 rw [HAB.out] at hb
 have HBY := qh hb
 clear hb
 go_wp2_with (go_at_call 13; (with_reducible refine HBY.out.mono ?_); rintro e w5 ⟨rfl, hk5⟩; have K5 := qh (K4.out.trans' hk5); clear hk5)
 exact bodyPost_ret (v := .bool true) (by simp [results, results6, go_sem]) rfl ⟨rfl, K5.out⟩
section
attribute [local go_sem] Oper.semAt_some qah qae
def qdI (n : Int) : qdn := ⟨1, 0, 0, n, ⟨⟨false, ⟨#[]⟩, 0⟩, ⟨false, ⟨#[]⟩, 0⟩⟩, ⟨#[]⟩⟩
theorem qkg (n : Int) : (qdI n).ok := by
 have h : DyD.ok ⟨false, ⟨#[]⟩, 0⟩ := ⟨by decide, by decide, by decide⟩
 exact ⟨rfl, rfl, .inl rfl, h, h⟩
def discU (c : GsD) (r : DyD) : RuD := ⟨0, c, r, 0, 0⟩
def NoPanD (Q : Exit → Act → World → Prop) : Exit → Act → World → Prop
 | .panic _, _, _ => False
 | e, a, w => Q e a w
theorem noPanD_of {Q : Exit → Act → World → Prop} : ∀ (e : Exit) (a : Act) (w : World), NoPanD Q e a w → Q e a w := fun e a w h => by
 cases e <;> first | exact h.elim | exact h
theorem ret_cell {F : Fence} {n : Nat} {P : Program} {fn : Func} {tmps : Array Value} {R : Ending → World → Prop} {lo : Nat} {w W : World} {b : Nat} {x : Value} (ds : List Deferred) (hds : Defs lo W ds) (hc : W.cell? ⟨b, 0, none⟩ = some x) (hk : Kept w W) (hw : w.heap.size ≤ lo)
  (hres : ∀ W', W'.cell? ⟨b, 0, none⟩ = some x → (results fn tmps).run P W' = .ok x W') (hR : ∀ W', Kept w W' → R (.returned x) W') (hlo : lo ≤ W.heap.size := by omega) : LeavesInM F n P fn tmps R ds .returning W := by
 refine qfg (lo := lo) ds W hds (fun W' hb hcc => ?_) hlo
 obtain ⟨o, ho, hco⟩ := cells_of_cell hc
 have h := (World.cell?_of_block (a := ⟨b, 0, none⟩) ((hcc b o ho hco).trans ho.symm)).trans hc
 exact ⟨x, hres W' h, hR W' (hk.trans (hb.mono hw))⟩
abbrev sqL (s : SqD) : List Value := (LC3 s.left.neg s.left.n s.left.e s.low.neg s.low.n s.low.e s.e)
theorem found_form {c : GsD} {r : DyD} (hc : gsB c = true) (hr : qad r = true) (h0 : 0 ≤ r.num) {x y : Nat} {S : StD} (hA : Asked ⟨0, c, r, x, y⟩ S) (hS : GoodS S) (g : GsD) :
  ∃ (cs : List Value) (td : Nat) (e : Int), qja S.L (findD S.L g) = .tuple #[.agg cs.toArray, .int .u8 (td : Int), .int .i64 e] ∧ cs.length = 7 ∧ cs.all (·.oneCell') = true ∧
   (e = 0 → gsB g = true ∧ td ≤ 2 ∧ ∀ ib, inS g c r = (ib, 0) → (td = 1 → ib = true) ∧ (td = 2 → ib = false)) := by
 by_cases h : (findD S.L g).2 = 0
 ·obtain ⟨hg, n, hn, hp⟩ := disc_found hc hr h0 hA hS h
  refine ⟨sqL n.sq, n.told, 0, ?_, rfl, rfl, fun _ => ⟨hg, (hS.nd _ _ hn).told, fun ib hi => ?_⟩⟩
  ·unfold qja
   rw [if_pos h, hn]
  ·have := hp (by rw [hi])
   rw [hi] at this
   exact this
 ·refine ⟨ZL4, 0, (findD S.L g).2, ?_, rfl, rfl, fun h2 => absurd h2 h⟩
  unfold qja
  rw [if_neg h]
  rfl
theorem name_act {c : Code} {P : Program} {Q : Exit → Act → World → Prop} {a : Act} {w : World} (h : ∀ A0, A0 = a → c.wp P Q A0 w) : c.wp P Q a w := h a rfl
set_option maxRecDepth 100000 in
set_option maxHeartbeats 6400000 in
theorem disc_walk {w : World} {s : SqD} {c : GsD} {r : DyD} {D : Int} {g : GsD} (hs : s.ok) (hcr : c.re.ok) (hci : c.im.ok) (hr : r.ok) (hgr : g.re.ok) (hgi : g.im.ok) (hT : T32 w) :
  Calls prog 5 #[.agg #[.bool s.left.neg, .string s.left.n, .int .i64 s.left.e, .bool s.low.neg, .string s.low.n, .int .i64 s.low.e, .int .i64 s.e], .agg #[.bool c.re.neg, .string c.re.n, .int .i64 c.re.e, .bool c.im.neg, .string c.im.n, .int .i64 c.im.e], .agg #[.bool r.neg, .string r.n, .int .i64 r.e], .int .i64 D, .agg #[.bool g.re.neg, .string g.re.n, .int .i64 g.re.e, .bool g.im.neg, .string g.im.n, .int .i64 g.im.e]] w fun en w' => en = .returned (.bool true) ∧ Kept w w' := by
 have hu : (discU c r).ok := ⟨by show (-9223372036854775808 : Int) ≤ 0; decide, by show (0 : Int) ≤ _; decide, hcr, hci, hr, by show 0 < _; decide, by show 0 < _; decide⟩
 have hgl := lt_of_cell (hT 0 (by omega))
 obtain ⟨⟨a0, a1, a2⟩, ⟨a3, a4, a5⟩, a6⟩ := s
 obtain ⟨⟨k0, k1, k2⟩, ⟨k3, k4, k5⟩⟩ := c
 obtain ⟨r0, r1, r2⟩ := r
 obtain ⟨⟨g0, g1, g2⟩, ⟨g3, g4, g5⟩⟩ := g
 simp only at hcr hci hgr hgi ⊢
 obtain ⟨S0, hS0⟩ : ∃ S : SqD, S = ⟨⟨a0, a1, a2⟩, ⟨a3, a4, a5⟩, a6⟩ := ⟨_, rfl⟩
 obtain ⟨C, hC⟩ : ∃ C : GsD, C = ⟨⟨k0, k1, k2⟩, ⟨k3, k4, k5⟩⟩ := ⟨_, rfl⟩
 obtain ⟨R, hR⟩ : ∃ R : DyD, R = ⟨r0, r1, r2⟩ := ⟨_, rfl⟩
 obtain ⟨G, hG⟩ : ∃ G : GsD, G = ⟨⟨g0, g1, g2⟩, ⟨g3, g4, g5⟩⟩ := ⟨_, rfl⟩
 obtain ⟨U, hU⟩ : ∃ U, U = discU C R := ⟨_, rfl⟩
 have AW := qh (fun W (hk : Kept w W) => qlF (hT.kept hk) (Nat.lt_of_lt_of_le hgl hk.size))
 have GC := qh (show ∀ W, Calls prog 18 #[.agg #[.bool k0, .string k1, .int .i64 k2, .bool k3, .string k4, .int .i64 k5]] W fun e w' => e = .returned (.int .i64 (qeR C.re C.im)) ∧ Kept W w' from fun W => by rw [hC]; exact qel ⟨k0, k1, k2⟩ ⟨k3, k4, k5⟩ W hcr hci)
 have DC := qh (show ∀ W, Calls prog 19 #[.agg #[.bool r0, .string r1, .int .i64 r2]] W fun e w' => e = .returned (.int .i64 (qcK R)) ∧ Kept W w' from fun W => by rw [hR]; exact qbq ⟨r0, r1, r2⟩ W hr)
 have DS := qh (show ∀ W, qad R = true → Calls prog 20 #[.agg #[.bool r0, .string r1, .int .i64 r2]] W fun e w' => e = .returned (.int .i64 R.num.sign) ∧ Kept W w' from fun W h => by rw [hR] at h ⊢; exact qcP ⟨r0, r1, r2⟩ W h)
 have BK := qh (show ∀ W A cc, Row W A (qcm [qdI D]) → 1 ≤ cc → cc ≤ maxLen → Calls prog 8 #[.agg #[.bool a0, .string a1, .int .i64 a2, .bool a3, .string a4, .int .i64 a5, .int .i64 a6], .agg #[.int .i64 0, .bool k0, .string k1, .int .i64 k2, .bool k3, .string k4, .int .i64 k5, .bool r0, .string r1, .int .i64 r2, .float .f64 0, .float .f64 0], .slice A 1 cc] W (qcT 1 W) from fun W A cc h1 h2 h3 => qlI (w := W) (A := A) (c := cc) hs hu (fun x hx => by rcases List.mem_singleton.1 hx with rfl; exact qkg D) h1 h2 h3)
 have NW := qh (show ∀ W, Kept w W → Calls prog 9 #[.agg #[.bool a0, .string a1, .int .i64 a2, .bool a3, .string a4, .int .i64 a5, .int .i64 a6], .iface 31 (.agg #[.int .i64 0, .bool k0, .string k1, .int .i64 k2, .bool k3, .string k4, .int .i64 k5, .bool r0, .string r1, .int .i64 r2, .float .f64 0, .float .f64 0])] W (qiv W U S0) from fun W hk => by rw [hU, hC, hR, hS0]; exact new_any (w := W) _ hs hu (hT.kept hk))
 have GI := qh (show ∀ W x, gsB x = true → gsB C = true → qad R = true → 0 ≤ R.num → Kept w W → Calls prog 23 #[.agg #[.bool x.re.neg, .string x.re.n, .int .i64 x.re.e, .bool x.im.neg, .string x.im.n, .int .i64 x.im.e], .agg #[.bool k0, .string k1, .int .i64 k2, .bool k3, .string k4, .int .i64 k5], .agg #[.bool r0, .string r1, .int .i64 r2]] W fun e w' => e = .returned (.tuple #[.bool (inS x C R).1, .int .i64 (inS x C R).2]) ∧ Kept W w' from fun W x h1 h2 h3 h4 hk => by rw [hC, hR] at *; exact gin_any x _ _ W h1 h2 h3 h4 (hT.kept hk))
 have FD := qh (show ∀ (W : World) (base p : Nat) (v : Value) (S : StD), TrM W base p v U S → GoodS S → Kept w W → Calls prog 11 #[.pointer (some ⟨p, 0, none⟩), .agg #[.bool g0, .string g1, .int .i64 g2, .bool g3, .string g4, .int .i64 g5]] W fun en w' => en = .returned (qja S.L (findD S.L G)) ∧ Kept W w' from fun W base p v S h1 h2 hk => by rw [hG]; exact ql2 _ h1 h2 (hT.kept hk) hgr hgi)
 have GG2 := qh (show ∀ W, gsB C = true → qad R = true → 0 ≤ R.num → Kept w W → Calls prog 23 #[.agg #[.bool g0, .string g1, .int .i64 g2, .bool g3, .string g4, .int .i64 g5], .agg #[.bool k0, .string k1, .int .i64 k2, .bool k3, .string k4, .int .i64 k5], .agg #[.bool r0, .string r1, .int .i64 r2]] W fun e w' => ∃ (b : Bool) (f : Int), e = .returned (.tuple #[.bool b, .int .i64 f]) ∧ (f = 0 → gsB G = true → inS G C R = (b, 0)) ∧ Kept W w' from by subst hC hR hG; exact fun W h2 h3 h4 hk => gin_all _ _ _ W hgr hgi h2 h3 h4 (hT.kept hk))
 have HT := qh hT
 have HU : Hid U.ok := qh (by rw [hU, hC, hR]; exact hu)
 have HUU := qh hU
 have HGL := qh hgl
 clear hs hu hcr hci hr hgr hgi hT hgl hU hS0 hC hR hG
 refine callsIn_wide.1 (callsIn_of_wp_marks (n := 5) func5 rfl trivial ?_ rfl)
 simp only [ntmps5, List.size_toArray, List.length_cons, List.length_nil, Nat.reduceAdd, Nat.reduceSub, Array.replicate_succ, Array.replicate_zero, List.push_toArray, List.append_toArray, List.nil_append, List.cons_append]
 refine wpIn_wide.2 ?_
 refine wp_mono (Q := NoPanD _) ?_ noPanD_of
 go_upto_region 1 with fail
 obtain ⟨bk, w1, hw, hb, B0, B1, B2, B3, B4, K1, HB⟩ := qo9 w (LC3 a0 a1 a2 a3 a4 a5 a6) 26 (LC1 k0 k1 k2 k3 k4 k5) 28 (LC0 r0 r1 r2) 24 (LC1 g0 g1 g2 g3 g4 g5) 28 [.bool false] 4
 rw [← hw, ← hb]; clear hw hb
 have haw := AW.out w1 K1.out
 go_upto_region 3 with (go_at_call 6; (with_reducible refine haw.mono ?_); rintro e w2 ⟨rfl, hk2⟩; have K2 := qh (K1.out.trans' hk2); have J2 := qh hk2; clear hk2 haw)
 clear AW
 refine wp_region_list ?_
 refine wpList_plain rfl fun K hK => qai (vs := (LC1 k0 k1 k2 k3 k4 k5)) (b := bk + 1) (n := 6) _ rfl rfl (B1.out.kept J2.out) rfl underlying28 rfl (by kernel_rfl) (hK _ _ ?_)
 clear hK K
 refine wpList_plain rfl fun K hK => qai (vs := (LC0 r0 r1 r2)) (b := bk + 2) (n := 3) _ rfl rfl (B2.out.kept J2.out) rfl underlying24 rfl (by kernel_rfl) (hK _ _ ?_)
 clear hK K
 refine wpList_plain rfl fun K hK => qaK [.int .i64 0, .bool k0, .string k1, .int .i64 k2, .bool k3, .string k4, .int .i64 k5, .bool r0, .string r1, .int .i64 r2, .float .f64 0, .float .f64 0] _ _ rfl (by kernel_rfl) (hK _ _ ?_)
 clear hK K
 refine wpList_plain rfl fun K hK => ?_
 go_step
 refine hK _ _ ?_
 clear hK K
 have K3 := qh (Kept.new (Below.refl _ w2) (.cells ZL6.toArray 31))
 have B5 := qh (Bx.new w2 ZL6 31 w2.heap.size rfl)
 obtain ⟨bu, hbu⟩ : ∃ b, b = w2.heap.size := ⟨_, rfl⟩
 have HBU := qh (show w2.heap.size ≤ bu by omega)
 rw [← hbu] at B5 ⊢
 clear hbu
 generalize World.alloc w2 _ = w3 at *
 refine wpList_plain rfl fun K hK => qaa (vs := [.int .i64 0, .bool k0, .string k1, .int .i64 k2, .bool k3, .string k4, .int .i64 k5, .bool r0, .string r1, .int .i64 r2, .float .f64 0, .float .f64 0]) (b := bu) (n := 12) _ _ rfl rfl rfl B5.out rfl rfl (by kernel_rfl) rfl (hK _ _ ?_)
 clear hK K
 replace B5 := qh (B5.out.row [.int .i64 0, .bool k0, .string k1, .int .i64 k2, .bool k3, .string k4, .int .i64 k5, .bool r0, .string r1, .int .i64 r2, .float .f64 0, .float .f64 0])
 replace K3 := qh (Kept.row K3.out HBU.out [.int .i64 0, .bool k0, .string k1, .int .i64 k2, .bool k3, .string k4, .int .i64 k5, .bool r0, .string r1, .int .i64 r2, .float .f64 0, .float .f64 0])
 generalize World.setRow w3 _ _ = w4 at *
 have J4 := qh (J2.out.trans' K3.out)
 have K4 := qh (K2.out.trans' K3.out)
 clear K3 K2 J2
 go_upto_region 4 with fail
 try simp only [Act.put, tdy]
 go_cut [58] from 30 to 58 (fun v58 wy => ∃ bb : Bool, v58 = .bool bb ∧ (bb = false → 0 ≤ D ∧ D ≤ 4 ∧ gsB C = true ∧ qad R = true ∧ 0 ≤ R.num) ∧ Kept w4 wy)
 case first =>
  by_cases hD0 : D < 0
  ·go_wp2_with fail
   go_meet
   exact ⟨true, rfl, fun h => (by cases h), Below.refl _ _⟩
  by_cases hD4 : 4 < D
  ·go_wp2_with fail
   go_meet
   exact ⟨true, rfl, fun h => (by cases h), Below.refl _ _⟩
  obtain ⟨c0, c1, c2, c3, c4, c5⟩ := (B1.out.kept J4.out).c6
  by_cases hc : gsB C = true
  rotate_left
  ·have hg : qeR C.re C.im = 2 := by unfold qeR; unfold gsB at hc; rw [if_neg hc]
   rw [hg] at GC
   go_wp2_with (go_at_call 18; (with_reducible refine (GC.out _).mono ?_); rintro e w5 ⟨rfl, hk5⟩; have K5 := qh hk5; clear hk5)
   go_meet
   exact ⟨true, rfl, fun h => (by cases h), K5.out⟩
  have hg : qeR C.re C.im = 0 := by unfold qeR; unfold gsB at hc; rw [if_pos hc]
  rw [hg] at GC
  by_cases hd : qad R = true
  rotate_left
  ·have hd2 : qcK R = 2 := by unfold qcK; rw [if_neg hd]
   rw [hd2] at DC
   go_wp2_with (first | (go_at_call 18; (with_reducible refine (GC.out _).mono ?_); rintro e w5 ⟨rfl, hk5⟩; have K5 := qh hk5; obtain ⟨d0, d1, d2⟩ := (B2.out.kept (J4.out.trans' hk5)).c3; clear hk5) | (go_at_call 19; (with_reducible refine (DC.out _).mono ?_); rintro e w6 ⟨rfl, hk6⟩; have K6 := qh (K5.out.trans' hk6); clear hk6))
   go_meet
   exact ⟨true, rfl, fun h => (by cases h), K6.out⟩
  have hd2 : qcK R = 0 := by unfold qcK; rw [if_pos hd]
  rw [hd2] at DC
  have hsg : Hid (R.num < 0 → R.num.sign = -1) := qh fun h => Int.sign_eq_neg_one_of_neg h
  obtain ⟨v, hv⟩ : ∃ v, v = R.num.sign := ⟨_, rfl⟩
  have DS2 := qh (fun W => DS.out W hd)
  rw [← hv] at DS2
  by_cases hn : R.num < 0
  ·have hv1 : v = -1 := by rw [hv]; exact hsg.out hn
   clear hv hsg
   subst hv1
   go_wp2_with (first | (go_at_call 18; (with_reducible refine (GC.out _).mono ?_); rintro e w5 ⟨rfl, hk5⟩; have K5 := qh hk5; obtain ⟨d0, d1, d2⟩ := (B2.out.kept (J4.out.trans' hk5)).c3; clear hk5) | (go_at_call 19; (with_reducible refine (DC.out _).mono ?_); rintro e w6 ⟨rfl, hk6⟩; have K6 := qh (K5.out.trans' hk6); clear hk6; obtain ⟨d0, d1, d2⟩ := (B2.out.kept (J4.out.trans' K6.out)).c3) | (go_at_call 20; (with_reducible refine (DS2.out _).mono ?_); rintro e w7 ⟨rfl, hk7⟩; have K7 := qh (K6.out.trans' hk7); clear hk7))
   go_meet
   exact ⟨true, rfl, fun h => (by cases h), K7.out⟩
  have hv1 : ¬ v < 0 := by
   rw [hv]
   rcases Int.lt_trichotomy R.num 0 with h | h | h
   ·exact absurd h hn
   ·rw [h]; decide
   ·rw [Int.sign_eq_one_of_pos h]; decide
  have HGOOD := qh (show 0 ≤ D ∧ D ≤ 4 ∧ gsB C = true ∧ qad R = true ∧ 0 ≤ R.num from ⟨by omega, by omega, hc, hd, by omega⟩)
  clear hv hsg hn hd hd2 hc hg
  go_wp2_with (first | (go_at_call 18; (with_reducible refine (GC.out _).mono ?_); rintro e w5 ⟨rfl, hk5⟩; have K5 := qh hk5; obtain ⟨d0, d1, d2⟩ := (B2.out.kept (J4.out.trans' hk5)).c3; clear hk5 c0 c1 c2 c3 c4 c5) | (go_at_call 19; (with_reducible refine (DC.out _).mono ?_); rintro e w6 ⟨rfl, hk6⟩; have K6 := qh (K5.out.trans' hk6); clear hk6; obtain ⟨d0, d1, d2⟩ := (B2.out.kept (J4.out.trans' K6.out)).c3) | (go_at_call 20; (with_reducible refine (DS2.out _).mono ?_); rintro e w7 ⟨rfl, hk7⟩; have K7 := qh (K6.out.trans' hk7); clear hk7 d0 d1 d2; obtain ⟨c0, c1, c2, c3, c4, c5, c6⟩ := (B0.out.kept (J4.out.trans' K7.out)).c7; have e0 := (B5.out.kept K7.out).c 0 rfl; have e1 := (B5.out.kept K7.out).c 1 rfl; have e2 := (B5.out.kept K7.out).c 2 rfl; have e3 := (B5.out.kept K7.out).c 3 rfl; have e4 := (B5.out.kept K7.out).c 4 rfl; have e5 := (B5.out.kept K7.out).c 5 rfl; have e6 := (B5.out.kept K7.out).c 6 rfl; have e7 := (B5.out.kept K7.out).c 7 rfl; have e8 := (B5.out.kept K7.out).c 8 rfl; have e9 := (B5.out.kept K7.out).c 9 rfl; have e10 := (B5.out.kept K7.out).c 10 rfl; have e11 := (B5.out.kept K7.out).c 11 rfl) | (go_at_call 8; (with_reducible refine (BK.out _ _ _ ?row ?one ?max).mono ?_); rotate_left 3; rintro e w8 ⟨bb, rfl, -, hk8⟩; have K8 := qh ((Kept.new K7.out (.cells #[.int .i64 1, .int .i64 0, .int .i64 0, .int .i64 D, .bool false, .string ⟨#[]⟩, .int .i64 0, .bool false, .string ⟨#[]⟩, .int .i64 0, .string ⟨#[]⟩] 37)).trans' hk8); clear hk8))
  ·go_meet
   exact ⟨_, rfl, fun _ => HGOOD.out, K8.out⟩
  ·rw [qcY]
   exact Row.qbA _ _ _ _ _ _ rfl rfl
  ·omega
  ·unfold maxLen; omega
 case rest =>
  obtain ⟨wa, hwa⟩ : ∃ X, X = wc := ⟨_, rfl⟩
  subst hwa
  obtain ⟨bb, rfl, hbb, hk4⟩ := hcut
  have KA := qh (K4.out.trans' hk4)
  have JA := qh (J4.out.trans' hk4)
  replace B5 := qh (B5.out.kept hk4)
  clear hk4 J4 K4 GC DC DS BK
  have rc0 := (B4.out.kept JA.out).c 0 rfl
  have rf0 := (B4.out.kept JA.out).f 0
  cases bb with
  | true =>
   go_wp2_with fail
   have HKE : Hid (Kept w (World.setCell wa ⟨bk + 4, 0, none⟩ (.bool true))) := qh (KA.out.setCell (by have := HB.out; show w.heap.size ≤ bk + 4; omega) _)
   show LeavesInM _ _ _ _ _ _ _ _ _
   exact ret_cell (w := w) (lo := w.heap.size) (x := .bool true) (b := bk + 4) [] trivial (World.cell?_setCell_same _ _ _ rc0) HKE.out (Nat.le_refl _) (fun W2 h => by simp [results, f5, go_sem, h]) (fun W2 h => ⟨rfl, h⟩) HKE.out.size
  | false =>
   obtain ⟨hD0, hD4, hgc, hgd, hgn⟩ := hbb rfl
   have HGOOD := qh (And.intro hgc (And.intro hgd hgn))
   obtain ⟨dn, rfl⟩ : ∃ dn : Nat, D = (dn : Int) := ⟨D.toNat, by omega⟩
   have HDN := qh (show dn ≤ 4 by omega)
   clear hbb hD0 hD4 hgc hgd hgn rc0 rf0
   go_upto_region 6 with fail
   refine wp_region_list ?_
   refine wpList_plain rfl fun K hK => qai (vs := (LC3 a0 a1 a2 a3 a4 a5 a6)) (b := bk) (n := 7) _ rfl rfl (B0.out.kept JA.out) rfl underlying26 rfl (by kernel_rfl) (hK _ _ ?_)
   clear hK K
   refine wpList_plain rfl fun K hK => qai (vs := [.int .i64 0, .bool k0, .string k1, .int .i64 k2, .bool k3, .string k4, .int .i64 k5, .bool r0, .string r1, .int .i64 r2, .float .f64 0, .float .f64 0]) (b := bu) (n := 12) _ rfl rfl B5.out rfl underlying31 rfl (by kernel_rfl) (hK _ _ ?_)
   clear hK K
   refine wpList_plain rfl fun K hK => ?_
   go_step
   refine hK _ _ ?_
   clear hK K
   refine wpList_plain rfl fun K hK => ?_
   go_step
   refine (NW.out wa KA.out).mono ?_
   clear NW
   rintro en w5 ⟨hk5, hn⟩
   have K5 := qh (KA.out.trans' hk5)
   have J5 := qh (JA.out.trans' hk5)
   by_cases hcond : sqB S0 = true ∧ (qaj S0).2 = 0
   rotate_left
   ·rw [if_neg hcond] at hn
    obtain ⟨e, he, rfl, -⟩ := hn
    have rc0 := (B4.out.kept J5.out).c 0 rfl
    have rf0 := (B4.out.kept J5.out).f 0
    iterate 5
     refine hK _ _ ?_
     clear hK K
     refine wpList_plain rfl fun K hK => ?_
     go_step
    refine hK _ _ ?_
    clear hK K
    have hne : (e != 0) = true := by simpa using he
    clear he hcond
    go_wp2_with fail
    have HKE : Hid (Kept w (World.setCell w5 ⟨bk + 4, 0, none⟩ (.bool true))) := qh (K5.out.setCell (by have := HB.out; show w.heap.size ≤ bk + 4; omega) _)
    show LeavesInM _ _ _ _ _ _ _ _ _
    exact ret_cell (w := w) (lo := w.heap.size) (x := .bool true) (b := bk + 4) [] trivial (World.cell?_setCell_same _ _ _ rc0) HKE.out (Nat.le_refl _) (fun W2 h => by simp [results, f5, go_sem, h]) (fun W2 h => ⟨rfl, h⟩) HKE.out.size
   ·rw [if_pos hcond] at hn
    obtain ⟨p, v, rfl, hM⟩ := hn
    iterate 5
     refine hK _ _ ?_
     clear hK K
     refine wpList_plain rfl fun K hK => ?_
     go_step
    refine hK _ _ ?_
    clear hK K
    have HAS : Hid (Asked U (qdB U S0)) := qh fun k n h => by
     cases k with
     | zero => cases h; exact ⟨rfl, hcond.2⟩
     | succ k => cases h
    have HGN := qh (show 1 < wa.heap.size by have := HGL.out; have := KA.out.size; omega)
    have hdw := qnt hM (qec hcond.1) (qdN U S0) (HT.out.kept K5.out) HU.out HGN.out (D := dn) (by have := HDN.out; omega)
    have HDW := qh hdw
    have HOG := qh hM.qfW
    have HK5 := qh hk5
    have HGS := qh (show GoodS (qbV (qaD U) dn (qdB U S0)).1 from qeW _ (qec hcond.1))
    have HWS := qh (show Whole (qbV (qaD U) dn (qdB U S0)).1 from qeC _ (qdN U S0))
    have HAD := qh (Asked.down (depth := dn) HAS.out)
    clear hM hdw hk5 hcond HAS
    go_upto_region 10 with (go_at_call 14; (with_reducible refine HDW.out.mono ?_); rintro e w6 ⟨rfl, v6, hM6, hF6, -⟩; have HM6 := qh hM6; have hk6 : Kept wa w6 := HK5.out.far hF6 HOG.out; have K6 := qh (KA.out.trans' hk6); have J6 := qh (JA.out.trans' hk6); clear hM6 hF6 hk6)
    generalize (qbV (qaD U) dn (qdB U S0)).1 = S1 at *
    generalize (qbV (qaD U) dn (qdB U S0)).2 = nd at *
    clear HDW HOG HK5 K5 J5 KA
    go_wp2_with (go_at_call 21; (with_reducible refine (leaves_any p _).mono ?_); rintro e w7 ⟨Bc, rfl, hk7, hBc, hbx⟩; have K7 := qh (K6.out.trans' hk7); have J7 := qh (J6.out.trans' hk7); have HM7 := qh (HM6.out.kept hk7); have HBX := qh hbx; have HBC := qh hBc; have HS7 := qh hk7.size; clear hk7 hbx hBc; have hf1 : ∀ W, (binOp .eql 62 (.func (.func 52) #[] #[.pointer (some ⟨Bc, 0, none⟩)]) .nilFunc).run prog W = .ok (.bool false) W := fun W => by kernel_rfl)
    refine name_act fun A0 hA => ?_
    have HA := qh hA
    have hev : A0.eval (.tmp 74) = .func (.func 52) #[] #[.pointer (some ⟨Bc, 0, none⟩)] := by rw [hA]; rfl
    have HWS7 := qh (show w.heap.size ≤ w7.heap.size from K7.out.size)
    clear hA hf1 HM6 K6 J6 HS7 HBC HGN
    refine (wpIn_wide (n := 5)).1 (qgP (α := Nat) rfl (by decide) (gf := 52) (lb := #[.pointer (some ⟨Bc, 0, none⟩)]) hev trivial (enters_of func52 (by kernel_rfl) rfl)
     (leaves_owns 4 (by omega) HM7.out HGS.out HWS.out HBX.out (B0 := w7.heap.size) (U := fun _ _ => False) ⟨fun _ _ _ _ _ _ _ h => h, fun _ _ _ _ _ _ _ _ h => h⟩ (fun W k hk hu => hu))
     ⟨fun _ _ _ _ _ _ _ h => h, fun _ _ _ _ _ _ _ _ h => h⟩ (Below.refl _ _) (fun k => by unfold leafE; split <;> rfl)
     (fun _ W => Kept w7 W) (fun _ _ _ => False) (fun s A B row h hg hr => h.grown hg h.size (fun r e => (hr r e).1)) (fun _ s A B row h _ _ => h.elim) (fun s A B row h hg hr => h.grown hg h.size (fun r e => (hr r e).1)) (fun _ s A B row h _ _ => h.elim) (fun _ _ _ _ h => h.elim)
     (Below.refl _ _)
     (fun k a' W => ∃ (y : Nat) (n : NdD), S1.L[k]? = some n ∧ w7.heap.size ≤ y ∧ Bx W y (sqL n.sq) ∧ a' = ⟨(((A0.tmps.setIfInBounds 75 (.agg (sqL n.sq).toArray)).setIfInBounds 76 (.int .u8 (n.told : Int))).setIfInBounds 14 (.pointer (some ⟨y, 0, none⟩))).setIfInBounds 15 (.int .u8 (n.told : Int)), []⟩)
     (fun x a' _ A B row ⟨y, n, h1, h2, h3, h4⟩ hg hr => ⟨y, n, h1, h2, h3.qfY hg (fun e => by obtain ⟨o, ho, hc⟩ := (hr y e).2; obtain ⟨o', ho', hc'⟩ := cells_of_cell (h3.c 0 rfl); rw [ho] at ho'; cases ho'; rw [hc] at hc'; cases hc'), h4⟩)
     ?assign ?body ?done (fun D c pre W _ _ h _ => h.elim))
    case assign =>
     rintro l pre k W K2 hI ⟨t, ht⟩ hK2
     have hkm : k ∈ qa3 S1 := by rw [ht]; simp
     obtain ⟨n, hn⟩ : ∃ n, S1.L[k]? = some n := ⟨_, List.getElem?_eq_getElem (qe1 HWS.out k hkm)⟩
     have he : leafE S1 k = #[.agg (sqL n.sq).toArray, .int .u8 (n.told : Int)] := by unfold leafE; rw [hn]
     have HK := qh hK2
     have HI := qh hI
     have HN := qh hn
     have hA := HA.out
     rw [he]
     clear hK2 hI hn he hkm ht
     rw [hA]
     gi_upto_region 11 with fail
     refine wpIn_region_list ?_
     refine wpListIn_plain rfl fun K hK => ?_
     refine Oper.wpIn_of_wp (fun c h => by cases h) ?_
     go_step
     refine hK _ _ ?_
     clear hK K
     have KY := qh (Kept.new (Below.refl _ W) (.cells ZL4.toArray 26))
     have BY := qh (Bx.new W ZL4 26 W.heap.size rfl)
     obtain ⟨y, hy⟩ : ∃ y, y = W.heap.size := ⟨_, rfl⟩
     have HY := qh (show W.heap.size ≤ y by omega)
     rw [← hy] at BY ⊢
     clear hy
     generalize World.alloc W _ = w4 at *
     refine wpListIn_plain rfl fun K hK => Oper.wpIn_of_wp (fun c h => by cases h) (qaa (vs := sqL n.sq) (b := y) (n := 7) _ _ rfl rfl rfl BY.out rfl rfl (by kernel_rfl) rfl (hK _ _ ?_))
     clear hK K
     replace BY := qh (BY.out.row (sqL n.sq))
     replace KY := qh (Kept.row KY.out HY.out (sqL n.sq))
     generalize World.setRow w4 _ _ = w5 at *
     gi_wp2_with fail
     refine HK.out _ _ ⟨KY.out.size, fun k o _ ho _ => (KY.out.block k (Array.getElem?_eq_some_iff.1 ho).1).trans ho⟩ ⟨KY.out.size, fun k o ho _ _ => (KY.out.block k (Array.getElem?_eq_some_iff.1 ho).1).trans ho, fun _ h => h.elim⟩ (HI.out.trans' KY.out) ⟨y, n, HN.out, Nat.le_trans HI.out.size HY.out, BY.out, ?_⟩
     rw [hA]
     simp only [List.setIfInBounds_toArray, List.set_cons_zero, List.set_cons_succ]
    case body =>
     rintro l pre k a' W hl ⟨rc, hrc⟩ hkw ⟨y, n, hn, hy, hby, rfl⟩ hlen
     have HKW := qh hkw
     have HBY := qh hby
     have HYL := qh hby.lt
     obtain ⟨ht, hcov⟩ := HAD.out _ _ hn
     have hsq := (HGS.out.nd _ _ hn).sq
     obtain ⟨hgc, hgd, hgn⟩ := HGOOD.out
     obtain ⟨cl, hcl, hcl4, hcorn⟩ := disc_corner hgc hgd hgn hsq hcov 0 0
     obtain ⟨x0, x1, x2, x3, rfl⟩ : ∃ x0 x1 x2 x3, cl = [x0, x1, x2, x3] := by
      rcases cl with _ | ⟨x0, _ | ⟨x1, _ | ⟨x2, _ | ⟨x3, _ | ⟨x4, cl⟩⟩⟩⟩⟩ <;> first | exact ⟨_, _, _, _, rfl⟩ | (simp at hcl4)
     obtain ⟨RV, hRV⟩ : ∃ RV, RV = [x0, x1, x2, x3].flatMap qoJ := ⟨_, rfl⟩
     have HCO := qh (show ∀ W, T32 W → Calls prog 22 #[.agg (sqL n.sq).toArray] W fun en w' => en = .returned (.tuple #[.agg RV.toArray, .int .i64 0]) ∧ Kept W w' from fun W h => by
      have := qdL n.sq W hsq h
      rw [hcl] at this
      rw [hRV]
      exact this)
     have HRL := qh (show RV.length = 24 by rw [hRV]; rfl)
     have HRO := qh (show RV.all (·.oneCell') = true by rw [hRV]; rfl)
     have HRX : Hid (∀ (i : Nat) (x : GsD), [x0, x1, x2, x3][i]? = some x → ∀ (j : Nat) (v : Value), (LC1 x.re.neg x.re.n x.re.e x.im.neg x.im.n x.im.e)[j]? = some v → RV[i * 6 + j]? = some v) := by
      refine qh fun i x hx j v hj => ?_
      have hj6 : j < 6 := by have := (List.getElem?_eq_some_iff.1 hj).1; simpa using this
      have hi4 : i < 4 := by have := (List.getElem?_eq_some_iff.1 hx).1; simpa using this
      rw [hRV]
      rcases (show i = 0 ∨ i = 1 ∨ i = 2 ∨ i = 3 by omega) with rfl | rfl | rfl | rfl <;> (cases hx; rcases (show j = 0 ∨ j = 1 ∨ j = 2 ∨ j = 3 ∨ j = 4 ∨ j = 5 by omega) with rfl | rfl | rfl | rfl | rfl | rfl <;> exact hj)
     have hU : qaD U n.sq = qaD ⟨0, C, R, 0, 0⟩ n.sq := by rw [HUU.out]; rfl
     rw [← hU, ← ht] at hcorn
     have HCN := qh (fun (i : Nat) (x : GsD) (hx : [x0, x1, x2, x3][i]? = some x) => hcorn x (List.mem_of_getElem? hx))
     obtain ⟨td, htd⟩ : ∃ td, td = n.told := ⟨_, rfl⟩
     have hA := HA.out
     rw [hA]
     simp only [List.setIfInBounds_toArray, List.set_cons_zero, List.set_cons_succ]
     rw [← htd] at HCN ⊢
     have HT7 := qh (HT.out.kept (K7.out.trans' HKW.out))
     clear hkw hby hrc hl hlen ht hcov hsq hcl hcl4 hcorn hU hgc hgd hgn hRV hA htd hy
     have HCLN := qh (show [x0, x1, x2, x3].length = 4 from rfl)
     generalize [x0, x1, x2, x3] = CL at *
     gi_upto_region 13 with fail
     refine wpIn_region_list ?_
     refine wpListIn_plain rfl fun K hK => Oper.wpIn_of_wp (fun c h => by cases h) (qai (vs := sqL n.sq) (b := y) (n := 7) _ rfl rfl HBY.out rfl underlying26 rfl (by kernel_rfl) (hK _ _ ?_))
     clear hK K
     refine wpListIn_plain rfl fun K hK => ?_
     refine Oper.wpIn_of_wp (fun c h => by cases h) ?_
     go_step
     (with_reducible refine (HCO.out _ HT7.out).mono ?_)
     rintro e w8 ⟨rfl, hk8⟩
     have K8 := qh hk8
     clear hk8
     iterate 4
      refine hK _ _ ?_
      clear hK K
      refine wpListIn_plain rfl fun K hK => ?_
      refine Oper.wpIn_of_wp (fun c h => by cases h) ?_
      go_step
     refine hK _ _ ?_
     clear hK K
     have K9 := qh (Kept.new K8.out (.cells ZL1.toArray 64))
     have B9 := qh (Bx.new w8 ZL1 64 w8.heap.size rfl)
     obtain ⟨cb, hcb⟩ : ∃ y, y = w8.heap.size := ⟨_, rfl⟩
     have HCB := qh (show W.heap.size ≤ cb by have := K8.out.size; omega)
     rw [← hcb] at B9 ⊢
     clear hcb K8 HBY HYL HCO
     generalize World.alloc w8 _ = w9 at *
     refine wpListIn_plain rfl fun K hK => Oper.wpIn_of_wp (fun c h => by cases h) (qaa (vs := RV) (b := cb) (n := 24) _ _ rfl rfl rfl B9.out HRL.out rfl (by kernel_rfl) HRO.out (hK _ _ ?_))
     clear hK K
     replace B9 := qh (B9.out.row RV)
     replace K9 := qh (Kept.row K9.out HCB.out RV)
     generalize World.setRow w9 _ _ = w10 at *
     gi_wp2_with fail
     gi_loopg [18] 4 (fun gh s18 wr => ∃ i : Nat, i + gh = 4 ∧ s18 = .int .i64 (i : Int) ∧ Kept W wr ∧ Bx wr cb RV)
     case atStart => exact ⟨0, by omega, rfl, K9.out, B9.out⟩
     case round =>
      clear K9 B9
      obtain ⟨i, hig, rfl, hkr, hbr⟩ := hrel
      have HKR := qh hkr
      have HBR := qh hbr
      clear hkr hbr
      cases gk with
      | zero =>
       obtain rfl : i = 4 := by omega
       clear HBR
       gi_wp2_with fail
       exact ⟨⟨HKR.out.size, fun k o _ ho _ => (HKR.out.block k (Array.getElem?_eq_some_iff.1 ho).1).trans ho⟩, ⟨HKR.out.size, fun k o ho _ _ => (HKR.out.block k (Array.getElem?_eq_some_iff.1 ho).1).trans ho, fun _ h => h.elim⟩, HKW.out.trans' HKR.out⟩
      | succ gj =>
       obtain ⟨x, hx⟩ : ∃ x, CL[i]? = some x := ⟨_, List.getElem?_eq_getElem (by have := HCLN.out; omega)⟩
       have hra := fun Z (hz : Bx Z cb RV) => hz.range (HRX.out i x hx)
       have HRA := qh hra
       obtain ⟨hxo, hin⟩ := HCN.out i x hx
       obtain ⟨hgc, hgd, hgn⟩ := HGOOD.out
       have hgi := fun Z hz => GI.out Z x hxo hgc hgd hgn hz
       have HGI := qh hgi
       have HIN := qh hin
       have hi4 : (i : Int) < 4 := by omega
       have hi0 : (0 : Int) ≤ (i : Int) := by omega
       have ewi : IntKind.i64.wrap ((i : Int) + 1) = ((i + 1 : Nat) : Int) := by rw [IntWalk.i64_in _ (by omega)]; omega
       have HEW := qh ewi
       have hKD : Kept w wr.drew := (K7.out.trans' (HKW.out.trans' HKR.out)).trans' (Below.refl _ wr).drew
       have hJD := (J7.out.trans' (HKW.out.trans' HKR.out)).trans' (Below.refl _ wr).drew
       have HKD := qh hKD
       have hS0 : Bx wr.drew cb RV ∧ Bx wr.drew (bk + 1) (LC1 k0 k1 k2 k3 k4 k5) ∧ Bx wr.drew (bk + 2) (LC0 r0 r1 r2) := ⟨HBR.out.kept (Below.refl _ wr).drew, B1.out.kept hJD, B2.out.kept hJD⟩
       clear hx hra hxo hin hgc hgd hgn hgi ewi hKD hJD
       gi_upto_region 19 with fail
       refine wpIn_region_L (fun W => Bx W cb RV ∧ Bx W (bk + 1) (LC1 k0 k1 k2 k3 k4 k5) ∧ Bx W (bk + 2) (LC0 r0 r1 r2)) 10 (by kernel_rfl) (by kernel_rfl) ?_ (fun hHeld => ?_)
       ·assumption
       refine wL 0 89 ?_
       refine wL 1 90 ?_
       refine yL (v := .agg #[.bool x.re.neg, .string x.re.n, .int .i64 x.re.e, .bool x.im.neg, .string x.im.n, .int .i64 x.im.e]) 2 91 ?_ ?_
       ·intro w hSw; (try dsimp only at hSw); exact qba (vs := (LC1 x.re.neg x.re.n x.re.e x.im.neg x.im.n x.im.e)) _ rfl rfl (HRA.out _ hSw.1) underlying28 rfl (by kernel_rfl)
       try simp only [Act.put, tdy]
       refine yL (v := .agg #[.bool k0, .string k1, .int .i64 k2, .bool k3, .string k4, .int .i64 k5]) 3 92 ?_ ?_
       ·intro w hSw; (try dsimp only at hSw); exact qaw (vs := (LC1 k0 k1 k2 k3 k4 k5)) (n := 6) _ rfl rfl hSw.2.1 rfl underlying28 rfl (by kernel_rfl)
       try simp only [Act.put, tdy]
       refine yL (v := .agg #[.bool r0, .string r1, .int .i64 r2]) 4 93 ?_ ?_
       ·intro w hSw; (try dsimp only at hSw); exact qaw (vs := (LC0 r0 r1 r2)) (n := 3) _ rfl rfl hSw.2.2 rfl underlying24 rfl (by kernel_rfl)
       try simp only [Act.put, tdy]
       refine oL 5 fun K hK => ?_
       go_simp
       ((with_reducible refine (HGI.out _ HKD.out).mono ?_); rintro e w12 ⟨rfl, hk12⟩; have HK12 := qh hk12; have hS12 := And.intro (hS0.1.kept hk12) (And.intro (hS0.2.1.kept hk12) (hS0.2.2.kept hk12)))
       refine hK.out _ _ ?_ (fun hHeld => ?_)
       ·assumption
       clear hK K
       try simp only [Act.put, tdy]
       refine wL 6 88 ?_
       refine wL 7 95 ?_
       refine wL 8 96 ?_
       refine wL 9 19 ?_
       refine eL fun K hK => ?_
       go_simp
       refine hK.out _ _ ?_
       clear hK K
       try simp only [Act.put, tdy]
       refine dL ?_ _
       refine OnlyN.ok ?_
       have HKX : Hid (Kept W w12) := qh ((HKR.out.trans' (show Kept wr wr.drew from (Below.refl _ wr).drew)).trans' HK12.out)
       have HBX2 := qh hS12.1
       have hin := HIN.out
       generalize inS x C R = IR at hin ⊢
       clear hS0 hS12 HIN HGI HRA HK12 HKD HBR
       obtain ⟨ib, ie⟩ := IR
       simp only at hin ⊢
       have ewi := HEW.out
       by_cases hf : ie = 0
       ·obtain ⟨h1, h2⟩ := hin hf
        subst hf
        by_cases t1 : td = 1
        ·have hb := h1 t1
         subst t1
         subst hb
         gi_wp2_with fail
         gi_roundg gj
         case measure => omega
         case rel => exact ⟨i + 1, by omega, by go_num, HKX.out, HBX2.out⟩
        ·by_cases t2 : td = 2
         ·have hb := h2 t2
          subst t2
          subst hb
          gi_wp2_with fail
          gi_roundg gj
          case measure => omega
          case rel => exact ⟨i + 1, by omega, by go_num, HKX.out, HBX2.out⟩
         ·have e1 : ((td : Int) == 1) = false := by simp; omega
          have e2 : ((td : Int) == 2) = false := by simp; omega
          gi_wp2_with fail
          gi_roundg gj
          case measure => omega
          case rel => exact ⟨i + 1, by omega, by go_num, HKX.out, HBX2.out⟩
       ·have e0 : (ie == 0) = false := by simpa using hf
        gi_wp2_with fail
        gi_roundg gj
        case measure => omega
        case rel => exact ⟨i + 1, by omega, by go_num, HKX.out, HBX2.out⟩
    case done =>
     rintro D0 xs W hD rfl hkw hDef
     rw [HA.out]
     dsimp only
     have HKW := qh hkw
     have HDD := qh hDef
     have HDL := qh hD
     clear hkw hDef hD HA
     obtain ⟨hgc, hgd, hgn⟩ := HGOOD.out
     have hUS : U = ⟨0, C, R, 0, 0⟩ := HUU.out
     rw [hUS] at HAD
     obtain ⟨cs, td, fe, hfe, hc7, hco, hprop⟩ := found_form hgc hgd hgn HAD.out HGS.out G
     have hfd := FD.out W _ p v6 S1 (HM7.out.kept HKW.out) HGS.out (K7.out.trans' HKW.out)
     rw [hfe] at hfd
     have HFD := qh hfd
     have HPR := qh hprop
     have HC7 := qh hc7
     have HCO := qh hco
     have HG2 := qh (fun Z hz => GG2.out Z hgc hgd hgn hz)
     have JW := qh (J7.out.trans' HKW.out)
     clear hgc hgd hgn hUS hfe hc7 hco hprop hfd HAD HGOOD
     go_upto_region 22 with fail
     refine wp_region_list ?_
     refine wpList_plain rfl fun K hK => ?_
     go_step
     refine hK _ _ ?_
     clear hK K
     refine wpList_plain rfl fun K hK => qai (vs := (LC1 g0 g1 g2 g3 g4 g5)) (b := bk + 3) (n := 6) _ rfl rfl (B3.out.kept JW.out) rfl underlying28 rfl (by kernel_rfl) (hK _ _ ?_)
     clear hK K
     refine wpList_plain rfl fun K hK => ?_
     go_step
     (with_reducible refine HFD.out.mono ?_)
     rintro e w8 ⟨rfl, hk8⟩
     have K8 := qh hk8
     clear hk8 HFD
     iterate 5
      refine hK _ _ ?_
      clear hK K
      refine wpList_plain rfl fun K hK => ?_
      go_step
     refine hK _ _ ?_
     clear hK K
     have K9 := qh (Kept.new K8.out (.cells ZL4.toArray 26))
     have B9 := qh (Bx.new w8 ZL4 26 w8.heap.size rfl)
     obtain ⟨cb, hcb⟩ : ∃ y, y = w8.heap.size := ⟨_, rfl⟩
     have HCB := qh (show W.heap.size ≤ cb by have := K8.out.size; omega)
     rw [← hcb] at B9 ⊢
     clear hcb K8
     generalize World.alloc w8 _ = w9 at *
     refine wpList_plain rfl fun K hK => qaa (vs := cs) (b := cb) (n := 7) _ _ rfl rfl rfl B9.out HC7.out rfl (by kernel_rfl) HCO.out (hK _ _ ?_)
     clear hK K B9
     replace K9 := qh (Kept.row K9.out HCB.out cs)
     generalize World.setRow w9 _ _ = w10 at *
     have JX := qh (JW.out.trans' K9.out)
     go_upto_region 23 with fail
     refine wp_region_list ?_
     refine wpList_plain rfl fun K hK => qai (vs := (LC1 g0 g1 g2 g3 g4 g5)) (b := bk + 3) (n := 6) _ rfl rfl (B3.out.kept JX.out) rfl underlying28 rfl (by kernel_rfl) (hK _ _ ?_)
     clear hK K
     refine wpList_plain rfl fun K hK => qai (vs := (LC1 k0 k1 k2 k3 k4 k5)) (b := bk + 1) (n := 6) _ rfl rfl (B1.out.kept JX.out) rfl underlying28 rfl (by kernel_rfl) (hK _ _ ?_)
     clear hK K
     refine wpList_plain rfl fun K hK => qai (vs := (LC0 r0 r1 r2)) (b := bk + 2) (n := 3) _ rfl rfl (B2.out.kept JX.out) rfl underlying24 rfl (by kernel_rfl) (hK _ _ ?_)
     clear hK K
     refine wpList_plain rfl fun K hK => ?_
     go_step
     (with_reducible refine (HG2.out _ (K7.out.trans' (HKW.out.trans' K9.out))).mono ?_)
     rintro e w11 ⟨ib, ie, rfl, hie, hk11⟩
     have K11 := qh (K9.out.trans' hk11)
     have JY := qh (JW.out.trans' K11.out)
     have HIE := qh hie
     have KZ := qh (K7.out.trans' (HKW.out.trans' K11.out))
     clear hk11 hie HG2 JX
     iterate 5
      refine hK _ _ ?_
      clear hK K
      refine wpList_plain rfl fun K hK => ?_
      go_step
     refine hK _ _ ?_
     clear hK K
     have rc0 := (B4.out.kept JY.out).c 0 rfl
     have rf0 := (B4.out.kept JY.out).f 0
     have HKE : Hid (Kept w (World.setCell w11 ⟨bk + 4, 0, none⟩ (.bool true))) := qh (KZ.out.setCell (by have := HB.out; show w.heap.size ≤ bk + 4; omega) _)
     have HDF : Hid (Defs w7.heap.size (World.setCell w11 ⟨bk + 4, 0, none⟩ (.bool true)) [{ target := .collected D0, args := #[] }]) := qh ((show Defs w7.heap.size W [{ target := .collected D0, args := #[] }] from ⟨D0, rfl, HDL.out, HDD.out, by simp, trivial⟩).keeps (fun k o h hc => (KeepsOthers.setCell w11 _ _).same k o ((K11.out.block k (Array.getElem?_eq_some_iff.1 h).1).trans h) hc))
     have HSZ := qh (show w7.heap.size ≤ (World.setCell w11 ⟨bk + 4, 0, none⟩ (.bool true)).heap.size by have h1 := HKW.out.size; have h2 := K11.out.size; simp [World.setCell]; omega)
     by_cases hf : fe = 0
     ·obtain ⟨hgb, htd, hpr⟩ := HPR.out hf
      subst hf
      by_cases h2 : ie = 0
      ·have hin := hpr ib (HIE.out h2 hgb)
       subst h2
       rcases (show td = 0 ∨ td = 1 ∨ td = 2 by omega) with rfl | rfl | rfl
       ·go_wp2_with fail
        show LeavesInM _ _ _ _ _ _ _ _ _
        exact ret_cell (w := w) (lo := w7.heap.size) (x := .bool true) (b := bk + 4) _ HDF.out (World.cell?_setCell_same _ _ _ rc0) HKE.out HWS7.out (fun W2 h => by simp [results, f5, go_sem, h]) (fun W2 h => ⟨rfl, h⟩) HSZ.out
       ·have hb := hin.1 rfl
        subst hb
        go_wp2_with fail
        show LeavesInM _ _ _ _ _ _ _ _ _
        exact ret_cell (w := w) (lo := w7.heap.size) (x := .bool true) (b := bk + 4) _ HDF.out (World.cell?_setCell_same _ _ _ rc0) HKE.out HWS7.out (fun W2 h => by simp [results, f5, go_sem, h]) (fun W2 h => ⟨rfl, h⟩) HSZ.out
       ·have hb := hin.2 rfl
        subst hb
        go_wp2_with fail
        show LeavesInM _ _ _ _ _ _ _ _ _
        exact ret_cell (w := w) (lo := w7.heap.size) (x := .bool true) (b := bk + 4) _ HDF.out (World.cell?_setCell_same _ _ _ rc0) HKE.out HWS7.out (fun W2 h => by simp [results, f5, go_sem, h]) (fun W2 h => ⟨rfl, h⟩) HSZ.out
      ·have e0 : (ie != 0) = true := by simpa using h2
       go_wp2_with fail
       show LeavesInM _ _ _ _ _ _ _ _ _
       exact ret_cell (w := w) (lo := w7.heap.size) (x := .bool true) (b := bk + 4) _ HDF.out (World.cell?_setCell_same _ _ _ rc0) HKE.out HWS7.out (fun W2 h => by simp [results, f5, go_sem, h]) (fun W2 h => ⟨rfl, h⟩) HSZ.out
     ·have e0 : (fe != 0) = true := by simpa using hf
      go_wp2_with fail
      show LeavesInM _ _ _ _ _ _ _ _ _
      exact ret_cell (w := w) (lo := w7.heap.size) (x := .bool true) (b := bk + 4) _ HDF.out (World.cell?_setCell_same _ _ _ rc0) HKE.out HWS7.out (fun W2 h => by simp [results, f5, go_sem, h]) (fun W2 h => ⟨rfl, h⟩) HSZ.out
end
section
set_option maxRecDepth 100000
open Go.ChangeShapes Go.WideShapes Go.ChangeAt Go.WideMaps Go.WideElems Go.RowKit Go.Deep
section
variable {H : Type} {enc : TypeId × Value → H} {w : World} {base : Nat} {spare : Nat → Bool} {held : Bool}
def DyD.qcL (d : DyD) : List Value := (LC0 d.neg d.n d.e)
theorem qdv {fuel : Nat} {cs : List Value} {x : DataW H × List MemPlace} (h : DataW.trod enc prog w base spare held fuel 24 cs = some x) : ∃ d : DyD, d.ok ∧ cs = d.qcL := by
 have hI : prog.cellsOf 3 = 1 := by kernel_rfl
 have hS : prog.cellsOf 22 = 1 := by kernel_rfl
 have hB : prog.cellsOf 4 = 1 := by kernel_rfl
 have hC : prog.cellsOf 24 = 3 := by kernel_rfl
 obtain ⟨xs, k, -, -, hl, hlen, hg⟩ := DataW.trod_struct underlying24 h
 rw [hC] at hl
 match cs, hl with
 | [c0, c1, c2], _ =>
  obtain ⟨x0, q0⟩ : ∃ x0, xs[0]? = some x0 := ⟨_, List.getElem?_eq_getElem (by rw [hlen]; decide)⟩
  obtain ⟨x1, q1⟩ : ∃ x0, xs[1]? = some x0 := ⟨_, List.getElem?_eq_getElem (by rw [hlen]; decide)⟩
  obtain ⟨x2, q2⟩ : ∃ x0, xs[2]? = some x0 := ⟨_, List.getElem?_eq_getElem (by rw [hlen]; decide)⟩
  have g0 := (hg 0 _ rfl).trans q0
  have g1 := (hg 1 _ rfl).trans q1
  have g2 := (hg 2 _ rfl).trans q2
  simp only [List.getElem_toArray, List.getElem_cons_zero, List.getElem_cons_succ, hI, hS, hB, List.drop_zero, List.take_succ_cons, List.take_zero, List.drop_succ_cons] at g0 g1 g2
  obtain ⟨a0, e0, -⟩ := DataW.trod_bool underlying4 g0
  obtain ⟨a1, e1, -, w1⟩ := DataW.trod_string underlying22 g1
  obtain ⟨a2, e2, -, w2⟩ := DataW.trod_int underlying3 g2
  injection e0 with e0; injection e1 with e1; injection e2 with e2
  subst e0 e1 e2
  exact ⟨⟨a0, a1, a2⟩, ⟨w1, (bounds_i64 w2).1, (bounds_i64 w2).2⟩, rfl⟩
def GsD.qcL (g : GsD) : List Value := (LC1 g.re.neg g.re.n g.re.e g.im.neg g.im.n g.im.e)
theorem qdP {fuel : Nat} {cs : List Value} {x : DataW H × List MemPlace} (h : DataW.trod enc prog w base spare held fuel 28 cs = some x) : ∃ g : GsD, (g.re.ok ∧ g.im.ok) ∧ cs = g.qcL := by
 have hD : prog.cellsOf 24 = 3 := by kernel_rfl
 have hC : prog.cellsOf 28 = 6 := by kernel_rfl
 obtain ⟨y0, y1, n, -, hl, h0, h1⟩ := trod_struct2 underlying28 h
 rw [hC] at hl
 simp only [hD] at h0 h1
 match cs, hl with
 | [c0, c1, c2, c3, c4, c5], _ =>
  simp only [List.drop_zero, List.take_succ_cons, List.take_zero, List.drop_succ_cons] at h0 h1
  obtain ⟨p, hp, ep⟩ := qdv h0
  obtain ⟨q, hq, eq⟩ := qdv h1
  simp only [DyD.qcL, List.cons.injEq, and_true] at ep eq
  obtain ⟨rfl, rfl, rfl⟩ := ep
  obtain ⟨rfl, rfl, rfl⟩ := eq
  exact ⟨⟨p, q⟩, ⟨hp, hq⟩, rfl⟩
def SqD.qcL (s : SqD) : List Value := (LC3 s.left.neg s.left.n s.left.e s.low.neg s.low.n s.low.e s.e)
theorem qia {fuel : Nat} {cs : List Value} {x : DataW H × List MemPlace} (h : DataW.trod enc prog w base spare held fuel 26 cs = some x) : ∃ s : SqD, s.ok ∧ cs = s.qcL := by
 have hD : prog.cellsOf 24 = 3 := by kernel_rfl
 have hI : prog.cellsOf 3 = 1 := by kernel_rfl
 have hC : prog.cellsOf 26 = 7 := by kernel_rfl
 obtain ⟨xs, k, -, -, hl, hlen, hg⟩ := DataW.trod_struct underlying26 h
 rw [hC] at hl
 match cs, hl with
 | [c0, c1, c2, c3, c4, c5, c6], _ =>
  obtain ⟨x0, q0⟩ : ∃ x0, xs[0]? = some x0 := ⟨_, List.getElem?_eq_getElem (by rw [hlen]; decide)⟩
  obtain ⟨x1, q1⟩ : ∃ x0, xs[1]? = some x0 := ⟨_, List.getElem?_eq_getElem (by rw [hlen]; decide)⟩
  obtain ⟨x2, q2⟩ : ∃ x0, xs[2]? = some x0 := ⟨_, List.getElem?_eq_getElem (by rw [hlen]; decide)⟩
  have g0 := (hg 0 _ rfl).trans q0
  have g1 := (hg 1 _ rfl).trans q1
  have g2 := (hg 2 _ rfl).trans q2
  simp only [List.getElem_toArray, List.getElem_cons_zero, List.getElem_cons_succ, hI, hD, List.drop_zero, List.take_succ_cons, List.take_zero, List.drop_succ_cons] at g0 g1 g2
  obtain ⟨p, hp, ep⟩ := qdv g0
  obtain ⟨q, hq, eq⟩ := qdv g1
  obtain ⟨a2, e2, -, w2⟩ := DataW.trod_int underlying3 g2
  simp only [DyD.qcL, List.cons.injEq, and_true] at ep eq
  obtain ⟨rfl, rfl, rfl⟩ := ep
  obtain ⟨rfl, rfl, rfl⟩ := eq
  injection e2 with e2
  subst e2
  exact ⟨⟨p, q, a2⟩, ⟨hp, hq, (bounds_i64 w2).1, (bounds_i64 w2).2⟩, rfl⟩
end
theorem qlM {P : Program} {W : World} {H : Type} {enc : TypeId × Value → H} {t e : TypeId} {n base fuel : Nat} {spare : Nat → Bool} {held : Bool} {cs : List Value} {p : List MemPlace} {ks : List Nat} (ht : P.underlying t = some (.array n e)) (he : P.underlying e = some (.int .u8)) (hce : P.cellsOf e = 1)
  (h : DataW.trod enc P W base spare held fuel t cs = some (.agg (ks.map fun k : Nat => .lit (.int .u8 (k : Int))), p)) : ∀ (i k : Nat), ks[i]? = some k → cs[i]? = some (Value.int .u8 (k : Int)) := by
 obtain ⟨xs, m, rfl, hx, hlen, hn, hel⟩ := DataW.trod_array ht h
 simp only [Prod.mk.injEq, DataW.agg.injEq] at hx
 have hk : ks.length = n := by
  have := congrArg List.length hx.1
  simpa [hn] using this
 intro i k hik
 have hi := (List.getElem?_eq_some_iff.1 hik).1
 have h1 := hel i (by omega)
 rw [hce, Nat.mul_one] at h1
 have hix : i < xs.length := by omega
 have hxi : xs[i]? = some xs[i] := List.getElem?_eq_getElem hix
 rw [hxi] at h1
 obtain ⟨z, e1, e2, -⟩ := DataW.trod_int he h1
 have e3 : cs[i]? = some (.int .u8 z) := by
  have := congrArg (fun l => l[0]?) e1
  simpa [List.getElem?_take, List.getElem?_drop] using this
 have e4 := congrArg (fun l => l[i]?) hx.1
 simp only [List.getElem?_map, hxi, hik, Option.map_some, e2] at e4
 injection e4 with e4
 injection e4 with e4
 injection e4 with e4 e5
 rw [e3, e5]
theorem qoP {W : World} (h : laidMetH prog [("math/bits.deBruijn32tab", Rows.laid_math_bits_deBruijn32tab)] W) : T32 W := by
 unfold laidMetH at h
 rw [show ([("math/bits.deBruijn32tab", Rows.laid_math_bits_deBruijn32tab)].filter fun x : String × DataW Unit => x.2.handleName?.isSome) = [] from by kernel_rfl] at h
 obtain ⟨ps, ⟨g', t', cs, fuel, p, q, hg', ht', hv, htr, hrest, rfl⟩, -, -⟩ := h
 have hgn : prog.globalNamed "math/bits.deBruijn32tab" = some 1 := by kernel_rfl
 obtain rfl := Option.some.inj (hgn.symm.trans hg')
 have htt : (prog.globals[1]?).map (·.type) = some 262 := by kernel_rfl
 obtain rfl := Option.some.inj (htt.symm.trans ht')
 rw [show (Rows.laid_math_bits_deBruijn32tab : DataW Unit) = .agg (t32.map fun k : Nat => .lit (.int .u8 (k : Int))) from by kernel_rfl] at htr
 have hcs := qlM (n := 32) (e := 5) (by kernel_rfl) (by kernel_rfl) (by kernel_rfl) htr
 have hcell := World.var?_cell hg' hv
 intro k hk
 have hkt : t32[k]? = some (t32.getD k 0) := by
  have hl : t32.length = 32 := by decide
  rw [List.getElem?_eq_getElem (by omega)]
  simp [List.getD, List.getElem?_eq_getElem (show k < t32.length by omega)]
 refine (hcell k).trans ?_
 have h2 := hcs k _ hkt
 simpa using h2
end
section
open Go
set_option maxRecDepth 100000
theorem RefineDisc.wf0 : Rows.refineDiscRow.wf (OpenSpec.ofChange Rows.refineDiscSpec) = true := by kernel_rfl
theorem RefineDisc.lay : laidOutB Tryz.pinned.checked.prog = true := by kernel_rfl
theorem RefineDisc.map : mapsRowed Tryz.pinned.checked.prog = true := by kernel_rfl
theorem RefineDisc.tie : namedTie Tryz.pinned.checked.prog Rows.refineDiscRow.named Rows.refineDiscSpec.vars = true := by kernel_rfl
theorem RefineDisc.inp : (Rows.refineDiscRow.inPlace == Tryz.pinned.checked.prog.inPlace 5) = true := by kernel_rfl
theorem RefineDisc.unf : (Rows.refineDiscRow.unfollowed == Tryz.pinned.checked.prog.unfollowed 5) = true := by kernel_rfl
theorem RefineDisc.rec : (Rows.refineDiscRow.recurses == Tryz.pinned.checked.prog.recurses 5) = true := by kernel_rfl
theorem RefineDisc.nam : (Rows.refineDiscRow.named == Tryz.pinned.checked.prog.varsNamed 5) = true := by kernel_rfl
theorem RefineDisc.pk : (Rows.refineDiscRow.plainKeys == Tryz.pinned.checked.prog.plainKeys) = true := by kernel_rfl
theorem RefineDisc.sh : Tryz.pinned.checked.prog.stopsHeard = true := by kernel_rfl
theorem RefineDisc.me : Tryz.pinned.checked.prog.mayEnter = true := by kernel_rfl
theorem RefineDisc.li : (Rows.refineDiscRow.lifted == Tryz.pinned.checked.prog.liftsFinal) = true := by kernel_rfl
theorem RefineDisc.mk : (Tryz.pinned.checked.prog.make == some Rows.refineDiscRow.make) = true := by kernel_rfl
theorem RefineDisc.facts : joinedFacts Tryz.pinned.checked.prog 5 f5 Rows.refineDiscSpec Rows.refineDiscRow = true := by
 unfold joinedFacts
 rw [RefineDisc.wf0, RefineDisc.lay, RefineDisc.map, RefineDisc.tie, RefineDisc.inp, RefineDisc.unf, RefineDisc.rec, RefineDisc.nam, RefineDisc.pk, RefineDisc.sh, RefineDisc.me, RefineDisc.li, RefineDisc.mk]
 kernel_rfl
theorem RefineDisc.wf : Rows.refineDiscRow.wfByText (OpenSpec.ofChange Rows.refineDiscSpec) = true := by kernel_rfl
theorem RefineDisc.goes : false = Rows.refineDiscRow.goesBy Tryz.pinned.checked.prog := by kernel_rfl
theorem RefineDisc.named : Tryz.pinned.checked.prog.funcNamed Rows.refineDiscRow.func = some 5 := by kernel_rfl
end
section
open Go
set_option maxRecDepth 100000
theorem qkL : Tryz.pinned.checked.prog.looks [] = false := by kernel_rfl
theorem qlh : Tryz.pinned.checked.prog.mainIs = some (Rows.refineOrderCard.stood.harness.1, Rows.refineOrderCard.stood.harness.2.toList) := by kernel_rfl
theorem qbL : laidOutB prog = true := by kernel_rfl
theorem qnR : ownKnob prog.godebug = none := by kernel_rfl
end
end Go.Proofs.YtfdnledkcongaaaGreatDoor
