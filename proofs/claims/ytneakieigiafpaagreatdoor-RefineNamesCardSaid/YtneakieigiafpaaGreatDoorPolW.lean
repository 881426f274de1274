/- Polynomials that may be: poly.zero, poly.finite, poly.Check, walked. -/
import Derived.Test.YtneakieigiafpaaGreatDoorBalH
import Derived.Deep.LoopGhost
namespace Go.Proofs.YtneakieigiafpaaGreatDoor
open Go.RowKit
attribute [local go_sem] run_float_arith run_f64bits run_f64from run_neg_float run_store_float run_store_complex

def Co.v (z : Co) : Value := .complex .f64 z.re z.im
/-- A polynomial that may be, of one coefficient at least. -/
structure OkP (p : List Co) : Prop where
  pos : 0 < p.length
  len : p.length ≤ 17
  fin : ∀ c ∈ p, c.fin = true
  last : ∀ c, p.getLast? = some c → czero c = false
set_option maxRecDepth 100000 in
set_option maxHeartbeats 400000 in
theorem pzero_any (z : Co) (w : World) : Calls Tryz.prog 204 #[z.v] w fun e w' => e = .returned (.bool (czero z)) ∧ w = w' := by
  obtain ⟨x, y⟩ := z
  obtain ⟨v, hv⟩ : ∃ v, czero ⟨x, y⟩ = v := ⟨_, rfl⟩
  rw [hv]
  change ((FloatKind.f64.format.order x 0 == some .eq) && (FloatKind.f64.format.order y 0 == some .eq)) = v at hv
  unfold Co.v
  dsimp only
  go_enter Tryz.func204, Tryz.ntmps204
  go_wp2
  go_ret
  exact ⟨rfl, rfl⟩
set_option maxRecDepth 100000 in
set_option maxHeartbeats 400000 in
theorem pfinite_any (z : Co) (h : z.fin = true) (w : World) : Calls Tryz.prog 205 #[z.v] w fun e w' => e = .returned (.bool true) ∧ w = w' := by
  have C1 := hide (fun W => kind_any z h W)
  clear h
  obtain ⟨x, y⟩ := z
  unfold Co.v
  dsimp only at C1 ⊢
  go_enter Tryz.func205, Tryz.ntmps205
  go_wp2_with (go_at_call 85; refine (C1.out _).mono ?_; rintro e w1 ⟨rfl, rfl⟩)
  go_ret
  exact ⟨rfl, rfl⟩
set_option maxRecDepth 100000 in
set_option maxHeartbeats 800000 in
theorem pcheck_any (p : List Co) (hp : OkP p) (A : Option Addr) (c : Nat) (w : World) (hr : Row w A (p.map Co.v)) :
    Calls Tryz.prog 137 #[.slice A p.length c] w fun e w' => e = .returned (.int .i64 0) ∧ w = w' := by
  obtain ⟨h0, h1, hf, hl⟩ := hp
  obtain ⟨b, off, rfl, hcell⟩ : ∃ b off, A = some ⟨b, off, none⟩ ∧ ∀ k (hk : k < p.length), w.cell? ⟨b, off + k, none⟩ = some (p[k]).v := by
    obtain ⟨b, off, hA, -⟩ := hr.at_ (k := 0) (by simpa using h0)
    refine ⟨b, off, hA, fun k hk => ?_⟩
    obtain ⟨b', off', hA', h'⟩ := hr.at_ (k := k) (by simpa using hk)
    rw [hA] at hA'
    cases hA'
    simpa using h'
  obtain ⟨n, hn⟩ : ∃ n, p.length = n := ⟨_, rfl⟩
  have C1 := hide (fun W => pzero_any (p[p.length - 1]) W)
  rw [hl p[p.length - 1] (by rw [List.getLast?_eq_getElem?, List.getElem?_eq_getElem])] at C1
  have c0 := hcell (p.length - 1) (by omega)
  obtain ⟨z, hz⟩ : ∃ z, p[p.length - 1] = z := ⟨_, rfl⟩
  rw [hz] at C1 c0
  rw [hn] at c0 ⊢
  have HC := hide (fun (k : Nat) (hk : k < n) => hcell k (hn ▸ hk))
  have HF := hide (fun (k : Nat) (hk : k < n) (W : World) => pfinite_any (p[k]'(hn ▸ hk)) (hf _ (List.getElem_mem _)) W)
  have i1 : ¬ (17 : Int) < n := by omega
  have i2 : (0 : Int) < n := by omega
  have k1 : (0 : Int) ≤ (n : Int) - 1 := by omega
  have k2 : (n : Int) - 1 < n := by omega
  have k3 : ((n : Int) - 1).toNat = n - 1 := by omega
  have k4 : IntKind.i64.wrap ((n : Int) - 1) = (n : Int) - 1 := IntWalk.i64_in _ (by omega)
  clear hr hcell hf hl
  unfold Co.v at C1 c0
  go_enter Tryz.func137, Tryz.ntmps137
  go_wp2_with (go_at_call 204; refine (C1.out _).mono ?_; rintro e w1 ⟨rfl, rfl⟩)
  clear c0 C1 k1 k2 k3 k4 hz
  go_loopg [4, 24] n (fun gh s4 ix wr => ∃ k : Nat, k + gh = n ∧ ix = .int .i64 k ∧ wr = w)
  case atStart => exact ⟨0, by omega, rfl, rfl⟩
  case round =>
    obtain ⟨k, hkg, rfl, rfl⟩ := hrel
    cases gk with
    | zero =>
      have hge : ¬ (k : Int) < n := by omega
      go_wp2
      go_ret
      exact ⟨rfl, rfl⟩
    | succ gh =>
      have hlt : (k : Int) < n := by omega
      have hltN : k < n := by omega
      have c1 := HC.out k hltN
      have C2 := hide (HF.out k hltN)
      obtain ⟨y, hy⟩ : ∃ y, p[k]'(hn ▸ hltN) = y := ⟨_, rfl⟩
      rw [hy] at c1 C2
      unfold Co.v at c1 C2
      clear hy
      go_wp2_with (go_at_call 205; refine (C2.out _).mono ?_; rintro e w1 ⟨rfl, rfl⟩)
      go_roundg gh
      case measure => omega
      case rel => exact ⟨k + 1, by omega, by go_num, rfl⟩
end Go.Proofs.YtneakieigiafpaaGreatDoor
