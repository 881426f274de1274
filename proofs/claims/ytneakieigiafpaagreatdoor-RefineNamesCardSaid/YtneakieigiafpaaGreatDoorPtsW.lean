/- poly.points: the balls of the coefficients alone, walked. -/
import Derived.Test.YtneakieigiafpaaGreatDoorPolW
import Derived.OwnWalk
namespace Go.Proofs.YtneakieigiafpaaGreatDoor
open Go.RowKit
attribute [local go_sem] run_float_arith run_f64bits run_f64from run_neg_float run_store_float run_store_complex

theorem info_ball : (Tryz.prog.info? 109).map (fun i => (i.zero, i.size, i.bytes)) = some (some (.agg #[.complex .f64 0 0, .float .f64 0]), 2, 24) := by kernel_rfl
def Ba.cs (b : Ba) : List Value := [.complex .f64 b.c.re b.c.im, .float .f64 b.r]
/-- Balls, by cells. -/
def ballsV (l : List Ba) : List Value := l.flatMap Ba.cs
theorem ballsV_len (l : List Ba) : (ballsV l).length = l.length * 2 := by
  induction l with
  | nil => rfl
  | cons b l ih => simp only [ballsV, List.flatMap_cons, List.length_append, List.length_cons] at ih ⊢; rw [ih]; simp [Ba.cs]; omega
theorem ballsV_snoc (l : List Ba) (b : Ba) : ballsV (l ++ [b]) = ballsV l ++ b.cs := by simp [ballsV]
theorem ballsV_one {b : Ba} : ∀ u ∈ b.cs, u.oneCell' = true := by
  intro u hu
  simp [Ba.cs] at hu
  rcases hu with rfl | rfl <;> rfl
theorem mapM_spec {α β : Type} (f : α → Option β) : ∀ (l : List α) (r : List β), l.mapM f = some r → r.length = l.length ∧ ∀ k (h : k < l.length) (h' : k < r.length), f l[k] = some r[k] := by
  intro l
  induction l with
  | nil =>
    intro r h
    simp at h
    subst h
    exact ⟨rfl, fun k h => by simp at h⟩
  | cons a l ih =>
    intro r h
    rw [List.mapM_cons] at h
    obtain ⟨b, hb, h⟩ := Option.bind_eq_some_iff.1 h
    obtain ⟨s, hs, h⟩ := Option.bind_eq_some_iff.1 h
    cases h
    obtain ⟨e1, e2⟩ := ih s hs
    refine ⟨by simp [e1], fun k hk hk' => ?_⟩
    cases k with
    | zero => exact hb
    | succ k => exact e2 k (by simpa using hk) (by simpa using hk')

set_option maxRecDepth 100000 in
set_option maxHeartbeats 1600000 in
theorem points_any (p : List Co) (bs : List Ba) (h : pointsO p = some bs) (hlen : p.length ≤ 17) (A : Option Addr) (c : Nat) (w : World) (hr : Row w A (p.map Co.v)) :
    Calls Tryz.prog 283 #[.slice A p.length c] w fun e w' => ∃ v, e = .returned v ∧ Own w' w.heap.size 2 v p.length (ballsV bs) ∧ Kept w w' := by
  obtain ⟨hbl, hb⟩ := mapM_spec _ _ _ h
  obtain ⟨i0, hi, hi0, hi1, hi2⟩ := info_parts info_ball
  obtain ⟨n, hn⟩ : ∃ n, p.length = n := ⟨_, rfl⟩
  rw [hn] at hbl
  have HC := hide (fun (k : Nat) (hk : k < n) => (Row.at_ hr (k := k) (by simpa using hn ▸ hk)))
  have HP := hide (fun (k : Nat) (hk : k < n) (W : World) => point_any (p[k]'(hn ▸ hk)) (bs[k]'(hbl ▸ hk)) (hb k (hn ▸ hk) (hbl ▸ hk)) W)
  rw [hn] at hlen ⊢
  have hT : ∀ k (hk : k < n), bs.take (k + 1) = bs.take k ++ [bs[k]'(hbl ▸ hk)] := fun k hk => by
    rw [List.take_add_one, List.getElem?_eq_getElem (hbl ▸ hk)]; rfl
  have HT := hide hT
  have hA : bs.take n = bs := List.take_of_length_le (by omega)
  clear hr hb h hT
  go_enter Tryz.func283, Tryz.ntmps283
  go_wp2
  go_loopg [3, 5, 8] n (fun gh v s5 ix wr => ∃ k : Nat, k + gh = n ∧ ix = .int .i64 k ∧ Own wr w.heap.size 2 v k (ballsV (bs.take k)) ∧ Kept w wr)
  case atStart => exact ⟨0, by omega, rfl, by simpa [ballsV] using Own.nil w w.heap.size 2, Below.refl _ _⟩
  case round =>
    obtain ⟨k, hkg, rfl, hown, hkept⟩ := hrel
    cases gk with
    | zero =>
      have hge : ¬ (k : Int) < n := by omega
      obtain rfl : k = n := by omega
      rw [hA] at hown
      have HO := hide hown
      have HK := hide hkept
      clear hown hkept
      go_wp2
      go_ret
      exact ⟨_, rfl, HO.out, HK.out⟩
    | succ gh =>
      have hlt : (k : Int) < n := by omega
      have hltN : k < n := by omega
      obtain ⟨b, off, rfl, hc⟩ := HC.out k hltN
      have c1 := (hkept.cells b (off + k) (lt_of_cell hc)).trans hc
      have C2 := hide (HP.out k hltN)
      have hT := HT.out k hltN
      rw [List.getElem_map] at c1
      obtain ⟨y, hy⟩ : ∃ y, p[k]'(hn ▸ hltN) = y := ⟨_, rfl⟩
      obtain ⟨q, hq⟩ : ∃ q, bs[k]'(hbl ▸ hltN) = q := ⟨_, rfl⟩
      rw [hy] at c1 C2
      rw [hq] at C2 hT
      unfold Co.v at c1
      unfold Ba.v at C2
      have HO := hide hown
      have HK := hide hkept
      have H5 := hide hT
      clear hy hc hown hkept hT hq
      go_wp2_with fail
      refine (C2.out _).mono ?_
      rintro e w1 ⟨rfl, hk1⟩
      have HO1 := hide (HO.out.kept hk1)
      have HK1 := hide (HK.out.trans' hk1)
      clear hk1 HO HK
      go_wp2_with (at_builtin; refine wpList_append_row _ rfl _ _ 359 rfl w.heap.size 109 i0 (.agg #[.complex .f64 0 0, .float .f64 0]) 2 24 Tryz.underlying359 hi hi0 hi1 hi2 rfl (by decide) _ k _ rfl (HO1.out.alloc _) (some ⟨w1.heap.size, 0, none⟩) 1 1 q.cs rfl rfl (Row.new_at _ _ _ _ _ _ rfl rfl) ballsV_one ?_ ?_ ?_ ?_)
      · unfold maxLen; omega
      · omega
      · have := HK1.out.size; simp; omega
      · intro v3 w3 hown3 hg3 hat3
        rw [← ballsV_snoc, ← H5.out] at hown3
        have HO3 := hide hown3
        have HK3 := hide (below_append (HK1.out.alloc (HK1.out.size) _) (HO1.out.alloc _) (Nat.le_refl _) (by have := HK1.out.size; simp; omega) hg3)
        clear hown3 hg3 hat3 HO1 HK1 H5
        go_wp2_with fail
        go_roundg gh
        case measure => omega
        case rel => exact ⟨k + 1, by omega, by go_num, HO3.out, HK3.out⟩
end Go.Proofs.YtneakieigiafpaaGreatDoor
