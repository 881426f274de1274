/- A slice of pictures, opened. -/
import Derived.Test.YtbhgcbgaadnfpaaOpenT
import Derived.Test.YtbhgcbgaadnfpaaPicU
namespace Go.Proofs.Ytbhgcbgaadnfpaa
open Go.ChangeShapes Go.WideShapes Go.ChangeAt Go.RowKit Go.Joins Go.Deep

theorem weightsAll_mem {H : Type} {P : Program} {e : TypeId} : ∀ {l : List (DataW H)} {d : DataW H} {n : Nat}, d ∈ l → n ∈ d.weights P e → n ∈ DataW.weightsAll P e l
  | x :: l, d, n, hd, hn => by
    simp only [DataW.weightsAll, List.mem_append]
    rcases List.mem_cons.1 hd with rfl | hd
    · exact .inl hn
    · exact .inr (weightsAll_mem hd hn)

set_option maxRecDepth 100000 in
theorem open_pics {H : Type} {enc : TypeId × Value → H} {w : World} {base : Nat} {spare : Nat → Bool} {held : Bool} {fuel : Nat} {v : Value} {x : DataW H × List MemPlace}
    (h : DataW.trod enc Try.prog w base spare held fuel 58 [v] = some x) (hw : ∀ n ∈ x.1.weights Try.prog 58, n ≤ 140737488351232) :
    ∃ (A : Option Addr) (n c : Nat) (ps : List PicD), v = .slice A n c ∧ n ≤ c ∧ c ≤ maxLen ∧ ps.length = n ∧ Pics w A ps ∧ ∀ p ∈ ps, p.g.length + 1 ≤ 140737488355328 := by
  rcases open_slice_fields (P := Try.prog) Try.underlying58 Try.underlying24 (by kernel_rfl) (by kernel_rfl) h with ⟨hc, -⟩ | ⟨a, n, c, m, D, Pl, hc, -, hnc, hcm, hm, hx, hi⟩
  · injection hc with hc
    exact ⟨none, 0, 0, [], hc, Nat.le_refl _, by simp [maxLen], rfl, .inl rfl, fun y hy => by simp at hy⟩
  · injection hc with hc
    have hnm : n ≤ m := by rw [hm]; split <;> omega
    have hp : ∀ i, i < n → ∃ p : PicD, (∃ A' k c', w.cell? (a.add (i * 3)) = some (.int .i64 p.a) ∧ w.cell? (a.add (i * 3 + 1)) = some (.int .i64 p.d) ∧ w.cell? (a.add (i * 3 + 2)) = some (.slice A' k c') ∧ PicAt w p A' k c') ∧ p.g.length + 1 ≤ 140737488355328 := by
      intro i hin
      obtain ⟨ys, k, hD, -, hyl, hf⟩ := hi i (by omega)
      obtain ⟨v0, y0, c0, q0, t0⟩ := hf 0 _ rfl
      obtain ⟨v1, y1, c1, q1, t1⟩ := hf 1 _ rfl
      obtain ⟨v2, y2, c2, q2, t2⟩ := hf 2 _ rfl
      obtain ⟨a0, e0, -, wf0⟩ := DataW.trod_int Try.underlying3 t0
      obtain ⟨a1, e1, -, wf1⟩ := DataW.trod_int Try.underlying3 t1
      injection e0 with e0; injection e1 with e1
      subst e0 e1
      obtain ⟨A', n', c', g, rfl, h1, h2, h3, h4, h5⟩ := open_bytes2 t2
      have b0 := bounds_i64 wf0
      have b1 := bounds_i64 wf1
      have hr : n' + 1 ≤ 140737488355328 := by
        rcases h5 with rfl | ⟨l, r, hl, rfl⟩
        · omega
        · have hd : DataW.agg [y0.1, y1.1, .slice l r] ∈ (List.range n).map D := by
            refine List.mem_map.2 ⟨i, List.mem_range.2 hin, ?_⟩
            rw [hD]
            match ys, hyl, q0, q1, q2 with
            | [z0, z1, z2], _, q0, q1, q2 =>
              simp at q0 q1 q2
              subst q0; subst q1; subst q2
              simp [hl]
          have hb : Try.prog.bytesOf 5 = 1 := by kernel_rfl
          have := hw ((l.length + r.length) * Try.prog.bytesOf 5) (by
            rw [hx]
            simp only [DataW.weights, Try.underlying58, List.mem_cons, List.mem_append]
            refine .inr (.inl (weightsAll_mem hd ?_))
            simp [DataW.weights, DataW.weightsEach, Try.underlying24, Try.underlying22])
          rw [hb] at this
          omega
      exact ⟨⟨a0, a1, g⟩, ⟨A', n', c', c0, c1, c2, h3, h1, by simp [maxLen] at h2; omega, h4, b0.1, b0.2, b1.1, b1.2⟩, by show g.length + 1 ≤ _; omega⟩
    obtain ⟨l, hl, hpp⟩ := list_of n hp
    refine ⟨some a, n, c, l, hc, hnc, hcm, hl, ?_, fun p hp' => ?_⟩
    · by_cases h0 : n = 0
      · left
        exact List.eq_nil_of_length_eq_zero (hl.trans h0)
      · right
        obtain ⟨y, hy⟩ : ∃ y, l[0]? = some y := ⟨_, List.getElem?_eq_getElem (by omega)⟩
        obtain ⟨⟨_, _, _, cy, -⟩, -⟩ := hpp 0 y hy
        have hs : a.spot = none := World.cell?_spot cy
        have ea : ∀ k, a.add k = ⟨a.block, a.off + k, none⟩ := fun k => by cases a; simp at hs; subst hs; exact add_zero_addr _ _ _
        refine ⟨a.block, a.off, by cases a; simp at hs; subst hs; rfl, fun i p hp' => ?_⟩
        obtain ⟨⟨A', k, c', q0, q1, q2, q3⟩, -⟩ := hpp i p hp'
        rw [ea] at q0 q1 q2
        exact ⟨A', k, c', q0, by rw [Nat.add_assoc]; exact q1, by rw [Nat.add_assoc]; exact q2, q3⟩
    · obtain ⟨i, hi'⟩ := List.getElem?_of_mem hp'
      exact (hpp i p hi').2
theorem pics_reach {H : Type} {ts : List TypeId} {ds : List (DataW H)} (h : (DataW.weightsEach Try.prog ts ds).all (· ≤ reachBytes) = true) {j : Nat} {d : DataW H} (ht : ts[j]? = some 58) (hd : ds[j]? = some d) : ∀ n ∈ d.weights Try.prog 58, n ≤ 140737488351232 := fun n hn =>
  of_decide_eq_true (List.all_eq_true.1 h n (DataW.weights_mem_each ht hd n hn))
end Go.Proofs.Ytbhgcbgaadnfpaa
