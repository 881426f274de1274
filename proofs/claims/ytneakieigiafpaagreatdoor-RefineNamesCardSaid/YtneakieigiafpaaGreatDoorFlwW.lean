/- flow.Check, flow.one, trap.period, walked. -/
import Derived.Test.YtneakieigiafpaaGreatDoorRatW
namespace Go.Proofs.YtneakieigiafpaaGreatDoor
open Go.RowKit
attribute [local go_sem] run_float_arith run_f64bits run_f64from run_neg_float run_store_float run_store_complex

set_option maxHeartbeats 400000 in
theorem period_any (n : Int) (h1 : 1 ≤ n) (h2 : n ≤ 32) (w : World) : Calls Tryz.prog 86 #[.int .i64 n] w fun e w' => e = .returned (.bool true) ∧ w = w' := by
  go_enter Tryz.func86, Tryz.ntmps86
  go_wp2
  go_ret
  exact ⟨by simp [h1, h2], rfl⟩
/-- A map's two rows of coefficients. -/
structure MapAt (W : World) (A B : Option Addr) (p q : List Co) : Prop where
  p : Row W A (p.map Co.v)
  q : Row W B (q.map Co.v)
theorem MapAt.kept {W W' : World} {A B : Option Addr} {p q : List Co} (h : MapAt W A B p q) (k : Kept W W') : MapAt W' A B p q := ⟨h.p.kept k, h.q.kept k⟩
theorem MapAt.alloc {W : World} {A B : Option Addr} {p q : List Co} (h : MapAt W A B p q) (o : Obj) : MapAt (W.alloc o) A B p q := ⟨h.p.alloc o, h.q.alloc o⟩
set_option maxRecDepth 100000 in
set_option maxHeartbeats 800000 in
theorem fcheck_any (p q : List Co) (b : Ba) (hp : OkP p) (hq : OkP q) (hb : b.ok = true) (A B : Option Addr) (c d : Nat) (w : World) (hm : MapAt w A B p q) :
    Calls Tryz.prog 219 #[.agg #[.slice A p.length c, .slice B q.length d], b.v] w fun e w' => e = .returned (.int .i64 0) ∧ Kept w w' := by
  have C1 := hide (fun (W : World) (h : MapAt W A B p q) => rcheck_any p q hp hq A B c d W h.p h.q)
  have C2 := hide (fun W => may_any b hb W)
  have HM := hide hm
  clear hp hq hb hm
  generalize p.length = n at *
  generalize q.length = m at *
  obtain ⟨⟨b1, b2⟩, br⟩ := b
  unfold Ba.v at *
  dsimp only at C2 ⊢
  go_enter Tryz.func219, Tryz.ntmps219
  go_wp2_with fail
  refine (C1.out _ ((HM.out.alloc _).alloc _)).mono ?_
  rintro e w1 ⟨rfl, hk1⟩
  have e0 : w1.cell? ⟨w.heap.size + 1, 0, none⟩ = some (.complex .f64 b1 b2) := (hk1.cells _ _ (by simp)).trans (by go_simp)
  have e1 : w1.cell? ⟨w.heap.size + 1, 1, none⟩ = some (.float .f64 br) := (hk1.cells _ _ (by simp)).trans (by go_simp)
  have HK := hide ((((Below.refl _ w).alloc (Nat.le_refl _) _).alloc (by simp) _).trans (hk1.mono (by simp; omega)))
  have e8 := lt_of_cell e0
  clear hk1
  go_wp2_with fail
  refine (C2.out _).mono ?_
  rintro e w2 ⟨rfl, hk2⟩
  go_wp2_with fail
  go_ret
  exact ⟨rfl, Kept.trans' HK.out hk2⟩
set_option maxRecDepth 100000 in
set_option maxHeartbeats 800000 in
theorem steps_any (p q : List Co) (b : Ba) (hp : OkP p) (hq : OkP q) (hb : b.ok = true) (N : Int) (h0 : 0 ≤ N) (h1 : N ≤ 4096) (A B : Option Addr) (c d : Nat) (w : World) (hm : MapAt w A B p q) :
    Calls Tryz.prog 166 #[.agg #[.slice A p.length c, .slice B q.length d], b.v, .int .i64 N] w fun e w' => e = .returned (.int .i64 0) ∧ Kept w w' := by
  have C1 := hide (fun (W : World) (h : MapAt W A B p q) => fcheck_any p q b hp hq hb A B c d W h)
  have HM := hide hm
  clear hp hq hb hm
  have i0 : ¬ N < 0 := by omega
  have i1 : ¬ 4096 < N := by omega
  generalize p.length = n at *
  generalize q.length = m at *
  obtain ⟨⟨b1, b2⟩, br⟩ := b
  unfold Ba.v at *
  dsimp only at C1 ⊢
  go_enter Tryz.func166, Tryz.ntmps166
  go_wp2_with fail
  refine (C1.out _ ((HM.out.alloc _).alloc _)).mono ?_
  rintro e w1 ⟨rfl, hk1⟩
  have HK := hide ((((Below.refl _ w).alloc (Nat.le_refl _) _).alloc (by simp) _).trans (hk1.mono (by simp; omega)))
  clear hk1
  go_wp2_with fail
  go_ret
  exact ⟨rfl, HK.out⟩
set_option maxRecDepth 100000 in
set_option maxHeartbeats 800000 in
theorem fone_any (b : Ba) (h : pointO ⟨ONE, 0⟩ = some b) (w : World) : Calls Tryz.prog 199 #[] w fun e w' => e = .returned b.v ∧ Kept w w' := by
  have C1 := hide (fun W => point_any _ b h W)
  clear h
  unfold ONE at C1
  obtain ⟨⟨p, q⟩, r⟩ := b
  unfold Ba.v at *
  dsimp only at C1 ⊢
  go_enter Tryz.func199, Tryz.ntmps199
  go_wp2_with fail
  refine (C1.out _).mono ?_
  rintro e w1 ⟨rfl, hk1⟩
  have c0 : w1.cell? ⟨w.heap.size, 0, none⟩ = some (.complex .f64 0 0) := (hk1.cells _ _ (by simp)).trans (by go_simp)
  have c1 : w1.cell? ⟨w.heap.size, 1, none⟩ = some (.float .f64 0) := (hk1.cells _ _ (by simp)).trans (by go_simp)
  have f0 : w1.frozen? ⟨w.heap.size, 0, none⟩ = false := (hk1.thaw _ _ (by simp)).trans (by go_simp)
  have f1 : w1.frozen? ⟨w.heap.size, 1, none⟩ = false := (hk1.thaw _ _ (by simp)).trans (by go_simp)
  have hz5 := lt_of_cell c0
  have K1 := hide (((Below.refl _ w).alloc (Nat.le_refl _) (.cells #[.complex .f64 0 0, .float .f64 0] 109)).trans (hk1.mono (by simp)))
  clear hk1
  go_wp2_with fail
  refine bodyPost_ret (v := .agg #[.complex .f64 p q, .float .f64 r]) (by simp [results, Tryz.results199, go_sem, c0, c1, hz5]) rfl ⟨rfl, (K1.out.setCell (Nat.le_refl _) _).setCell (Nat.le_refl _) _⟩
end Go.Proofs.YtneakieigiafpaaGreatDoor
