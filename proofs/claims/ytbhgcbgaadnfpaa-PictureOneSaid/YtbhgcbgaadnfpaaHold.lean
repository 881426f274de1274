/- The laws' own 'held': both answers are the picture that they must be; then the one is written over. -/
import Derived.Test.YtbhgcbgaadnfpaaLent
import Derived.Test.YtbhgcbgaadnfpaaBackL
namespace Go.Proofs.Ytbhgcbgaadnfpaa
open Go.RowKit

/-- A store into what is owned. -/
theorem Own.store {w : World} {base n c g off : Nat} {xs : List Value} (h : Own w base 1 (.slice (some ⟨g, off, none⟩) n c) n xs) {j : Nat} (hj : j < n) (u : Value) : Own (w.setCell ⟨g, off + j, none⟩ u) base 1 (.slice (some ⟨g, off, none⟩) n c) n (xs.set j u) := by
  rcases h.2 with ⟨hv, _⟩ | ⟨g', off', cap, hv, hb, hg, hnc, hcm, hx, hc⟩
  · cases hv
  · injection hv with hA _ hcc
    injection hA with hA; injection hA with h1 h2
    subst h1; subst h2; subst hcc
    refine ⟨by simpa using h.1, .inr ⟨g, off, c, rfl, hb, by simpa [World.setCell] using hg, hnc, hcm, fun k v hk => ?_, fun k hk => ?_⟩⟩
    · by_cases hkj : k = j
      · subst hkj
        have hlen := h.1
        rw [List.getElem?_set_self (by omega)] at hk
        obtain ⟨o, ho⟩ := Option.isSome_iff_exists.1 (hc k (by omega)).1
        rw [World.cell?_setCell_same _ _ _ ho]
        exact hk
      · rw [List.getElem?_set_ne (Ne.symm hkj)] at hk
        rw [World.cell?_setCell_other _ _ _ _ (by first | (simp; done) | (simp; omega))]
        exact hx k v hk
    · rw [World.frozen?_setCell]
      refine ⟨?_, (hc k hk).2⟩
      by_cases hkj : k = j
      · subst hkj
        obtain ⟨o, ho⟩ := Option.isSome_iff_exists.1 (hc k hk).1
        rw [World.cell?_setCell_same _ _ _ ho]; rfl
      · rw [World.cell?_setCell_other _ _ _ _ (by first | (simp; done) | (simp; omega))]
        exact (hc k hk).1

/-- What stays while 'held' writes over the first picture (its greys: v, its box: NB). -/
structure Rest (w wr : World) (base NB N1 N2 : Nat) (v : Value) (a d : Int) (B C : Option Addr) (n cb cc : Nat) (g : List UInt8) (v0 : Value) : Prop where
  a0 : wr.cell? ⟨NB, 0, none⟩ = some (.int .i64 a)
  a1 : wr.cell? ⟨NB, 1, none⟩ = some (.int .i64 d)
  b0 : wr.cell? ⟨N1, 0, none⟩ = some (.int .i64 a)
  b1 : wr.cell? ⟨N1, 1, none⟩ = some (.int .i64 d)
  b2 : wr.cell? ⟨N1, 2, none⟩ = some (.slice B n cb)
  c0 : wr.cell? ⟨N2, 0, none⟩ = some (.int .i64 a)
  c1 : wr.cell? ⟨N2, 1, none⟩ = some (.int .i64 d)
  c2 : wr.cell? ⟨N2, 2, none⟩ = some (.slice C n cc)
  rb : Row wr B (bytesV g)
  rc : Row wr C (bytesV g)
  fz : wr.frozen? ⟨NB, 2, none⟩ = false
  bl : Below base w wr
  n1 : N1 ≠ NB
  n2 : N2 ≠ NB
  nb : ∀ k, v.ownBlock = some k → k ≠ NB ∧ k ≠ N1 ∧ k ≠ N2
  vb : bytesV g ≠ [] → ∀ b off, B = some ⟨b, off, none⟩ → some b ≠ v.ownBlock ∧ b ≠ NB
  vc : bytesV g ≠ [] → ∀ b off, C = some ⟨b, off, none⟩ → some b ≠ v.ownBlock ∧ b ≠ NB
  nw : w.heap.size ≤ NB
  fr : ∀ b o, b < w.heap.size → some b ≠ v0.ownBlock → wr.cell? ⟨b, o, none⟩ = w.cell? ⟨b, o, none⟩
  vo : ∀ b, b < w.heap.size → some b ≠ v0.ownBlock → some b ≠ v.ownBlock
  sz : w.heap.size ≤ wr.heap.size
  ff : ∀ b o, b < w.heap.size → some b ≠ v0.ownBlock → wr.frozen? ⟨b, o, none⟩ = w.frozen? ⟨b, o, none⟩
theorem Rest.move {w wr wx : World} {base NB N1 N2 : Nat} {v v' : Value} {a d : Int} {B C : Option Addr} {n cb cc : Nat} {g : List UInt8} {v0 : Value} (h : Rest w wr base NB N1 N2 v a d B C n cb cc g v0)
    (hk : ∀ b o, b < wr.heap.size → some b ≠ v.ownBlock → ¬ (b = NB ∧ o = 2) → wx.cell? ⟨b, o, none⟩ = wr.cell? ⟨b, o, none⟩) (hf : wx.frozen? ⟨NB, 2, none⟩ = false) (hz : ∀ b o, b < wr.heap.size → some b ≠ v.ownBlock → wx.frozen? ⟨b, o, none⟩ = wr.frozen? ⟨b, o, none⟩) (hb : Below base w wx)
    (hv : v'.ownBlock = v.ownBlock ∨ ∀ k, v'.ownBlock = some k → wr.heap.size ≤ k) : Rest w wx base NB N1 N2 v' a d B C n cb cc g v0 := by
  have nv : ∀ x, (x = NB ∨ x = N1 ∨ x = N2) → some x ≠ v.ownBlock := fun x hx e => by have := h.nb x e.symm; omega
  have fresh : ∀ b, b < wr.heap.size → some b ≠ v.ownBlock → some b ≠ v'.ownBlock := fun b hb hne e => by
    rcases hv with hv | hv
    · exact hne (e.trans hv)
    · have := hv b e.symm; omega
  have row : ∀ R : Option Addr, Row wr R (bytesV g) → (bytesV g ≠ [] → ∀ b off, R = some ⟨b, off, none⟩ → some b ≠ v.ownBlock ∧ b ≠ NB) → Row wx R (bytesV g) := fun R hR hne0 => by
    by_cases hg : bytesV g = []
    · exact .inl hg
    have hne := hne0 hg
    rcases hR with hR | ⟨b, off, hA, hc⟩
    · exact .inl hR
    · exact .inr ⟨b, off, hA, fun k u hu => (hk _ _ (lt_of_cell (hc k u hu)) (hne b off hA).1 (fun e => (hne b off hA).2 e.1)).trans (hc k u hu)⟩
  have c := fun (b o : Nat) (u : Value) (hu : wr.cell? ⟨b, o, none⟩ = some u) (hb : b = NB ∨ b = N1 ∨ b = N2) (ho : ¬ (b = NB ∧ o = 2)) => (hk b o (lt_of_cell hu) (nv b hb) ho).trans hu
  have n1 := h.n1
  have n2 := h.n2
  have lt0 := lt_of_cell h.a0
  have lt1 := lt_of_cell h.b0
  have lt2 := lt_of_cell h.c0
  refine ⟨c _ _ _ h.a0 (by omega) (by omega), c _ _ _ h.a1 (by omega) (by omega), c _ _ _ h.b0 (by omega) (by omega), c _ _ _ h.b1 (by omega) (by omega), c _ _ _ h.b2 (by omega) (by omega), c _ _ _ h.c0 (by omega) (by omega), c _ _ _ h.c1 (by omega) (by omega), c _ _ _ h.c2 (by omega) (by omega),
    row B h.rb h.vb, row C h.rc h.vc, hf, hb, n1, n2, fun k hk' => ?_, fun hg b off hB => ?_, fun hg b off hC => ?_, h.nw, fun b o hb hne => (hk b o (Nat.lt_of_lt_of_le hb h.sz) (h.vo b hb hne) (fun e => by have := h.nw; omega)).trans (h.fr b o hb hne), fun b hb hne => fresh b (Nat.lt_of_lt_of_le hb h.sz) (h.vo b hb hne), hb.size, fun b o hb hne => (hz b o (Nat.lt_of_lt_of_le hb h.sz) (h.vo b hb hne)).trans (h.ff b o hb hne)⟩
  · rcases hv with hv | hv
    · exact h.nb k (hv ▸ hk')
    · have := hv k hk'; omega
  · obtain ⟨b', off', hA, hlt, -⟩ := h.rb.lt hg
    rw [hB] at hA; injection hA with hA; injection hA with e1 e2
    subst e1
    exact ⟨fresh b hlt (h.vb hg b off hB).1, (h.vb hg b off hB).2⟩
  · obtain ⟨b', off', hA, hlt, -⟩ := h.rc.lt hg
    rw [hC] at hA; injection hA with hA; injection hA with e1 e2
    subst e1
    exact ⟨fresh b hlt (h.vc hg b off hC).1, (h.vc hg b off hC).2⟩

set_option maxRecDepth 100000 in
set_option maxHeartbeats 800000 in
theorem held_more (a d : Int) (A B C : Option Addr) (n ca cb cc base : Nat) (g : List UInt8) (w : World) (hn : n ≤ 4194304) (hl : g.length = n) (hbase : base ≤ w.heap.size) (ho : Own w base 1 (.slice A n ca) n (bytesV g)) (hb : Row w B (bytesV g)) (hc : Row w C (bytesV g))
    (hvb : bytesV g ≠ [] → ∀ b off, B = some ⟨b, off, none⟩ → some b ≠ (Value.slice A n ca).ownBlock) (hvc : bytesV g ≠ [] → ∀ b off, C = some ⟨b, off, none⟩ → some b ≠ (Value.slice A n ca).ownBlock) :
    Calls Try.prog 17 #[.agg #[.int .i64 a, .int .i64 d, .slice A n ca], .agg #[.int .i64 a, .int .i64 d, .slice B n cb], .agg #[.int .i64 a, .int .i64 d, .slice C n cc]] w fun e w' => e = .returned (.bool true) ∧ Below base w w' ∧ ∀ b o, b < w.heap.size → some b ≠ (Value.slice A n ca).ownBlock → w'.cell? ⟨b, o, none⟩ = w.cell? ⟨b, o, none⟩ ∧ w'.frozen? ⟨b, o, none⟩ = w.frozen? ⟨b, o, none⟩ := by
  obtain ⟨i0, hi, hi0, hi1, hi2⟩ := info_parts info_u8
  have HL := hide hl
  have hra := ho.row
  have HH := hide (And.intro ho (And.intro hb (And.intro hc (And.intro hvb hvc))))
  have cs : ∀ X P Q p q, Row X P (bytesV g) → Row X Q (bytesV g) → Calls Try.prog 25 #[.agg #[.int .i64 a, .int .i64 d, .slice P n p], .agg #[.int .i64 a, .int .i64 d, .slice Q n q]] X fun e w' => e = .returned (.bool true) ∧ Kept X w' := fun X P Q p q hP hQ => by
    have h := rsame_any a d a d P Q n p n q g g X hl hl hP hQ
    rwa [show (a == a && (d == d && g == g)) = true by simp] at h
  have CS := hide cs
  clear hl ho hb hc hvb hvc cs hra
  go_enter Try.func17, Try.ntmps17
  go_wp2_with fail
  obtain ⟨W, hW⟩ : ∃ W, W = ((w.alloc (.cells #[.int .i64 a, .int .i64 d, .slice A n ca] 24)).alloc (.cells #[.int .i64 a, .int .i64 d, .slice B n cb] 24)).alloc (.cells #[.int .i64 a, .int .i64 d, .slice C n cc] 24) := ⟨_, rfl⟩
  obtain ⟨NB, hNB⟩ : ∃ x, x = w.heap.size := ⟨_, rfl⟩
  obtain ⟨N1, hN1⟩ : ∃ x, x = w.heap.size + 1 := ⟨_, rfl⟩
  obtain ⟨N2, hN2⟩ : ∃ x, x = w.heap.size + 1 + 1 := ⟨_, rfl⟩
  have hR0 : Rest w W base NB N1 N2 (.slice A n ca) a d B C n cb cc g (.slice A n ca) := by
    obtain ⟨ho, hb, hc, hvb, hvc⟩ := HH.out
    have hK : Kept w W := by rw [hW]; exact (((Below.refl _ _).alloc (Nat.le_refl _) _).alloc (by simp) _).alloc (by simp; omega) _
    have x1 : Box W NB (.int .i64 a) (.int .i64 d) (.slice A n ca) := by rw [hW]; exact ((Box.new w _ _ _ _ _ hNB).alloc _).alloc _
    have x2 : Box W N1 (.int .i64 a) (.int .i64 d) (.slice B n cb) := by rw [hW]; exact (Box.new _ _ _ _ _ _ (by simp; omega)).alloc _
    have x3 : Box W N2 (.int .i64 a) (.int .i64 d) (.slice C n cc) := by rw [hW]; exact Box.new _ _ _ _ _ _ (by simp; omega)
    refine ⟨x1.1, x1.2.1, x2.1, x2.2.1, x2.2.2, x3.1, x3.2.1, x3.2.2, hb.kept hK, hc.kept hK, ?_, hK.mono hbase, by omega, by omega, fun k hk => ?_, fun hg b off hB => ⟨hvb hg b off hB, ?_⟩, fun hg b off hC => ⟨hvc hg b off hC, ?_⟩, by omega, fun b o hb _ => hK.cells b o hb, fun b _ h => h, hK.size, fun b o hb _ => hK.thaw b o hb⟩
    · rw [hW, World.frozen?_alloc_old _ _ ⟨_, _, none⟩ (by simp; omega), World.frozen?_alloc_old _ _ ⟨_, _, none⟩ (by simp; omega), hNB]; exact frozen_new _ _ _ _
    · have := ho.lt k hk; omega
    · obtain ⟨b', off', hA, hlt, -⟩ := hb.lt hg
      rw [hB] at hA; injection hA with hA; injection hA with e1 e2
      omega
    · obtain ⟨b', off', hA, hlt, -⟩ := hc.lt hg
      rw [hC] at hA; injection hA with hA; injection hA with e1 e2
      omega
  have hO0 : Own W base 1 (.slice A n ca) n (bytesV g) := by rw [hW]; exact ((HH.out.1.alloc _).alloc _).alloc _
  have hA2 : W.cell? ⟨NB, 2, none⟩ = some (.slice A n ca) := by
    have x1 : Box W NB (.int .i64 a) (.int .i64 d) (.slice A n ca) := by rw [hW]; exact ((Box.new w _ _ _ _ _ hNB).alloc _).alloc _
    exact x1.2.2
  rw [← hW, ← hN2, ← hN1, ← hNB]
  have hbN : base ≤ NB := by omega
  have HNB := hide (And.intro hNB (And.intro hN1 hN2))
  clear hW hNB hN1 hN2
  refine (CS.out _ _ _ _ _ hO0.row hR0.rc).mono ?_
  rintro e w1 ⟨rfl, hk1⟩
  have hR1 : Rest w w1 base NB N1 N2 (.slice A n ca) a d B C n cb cc g (.slice A n ca) := hR0.move (fun b o hb _ _ => hk1.cells b o hb) ((hk1.frozen (p := ⟨NB, 2, none⟩) (lt_of_cell hR0.a0)).trans hR0.fz) (fun b o hb _ => hk1.thaw b o hb) (hR0.bl.trans (hk1.mono (Nat.le_trans hbN (Nat.le_of_lt (lt_of_cell hR0.a0))))) (.inl rfl)
  have hO1 := hO0.kept hk1
  have hA1 := (hk1.cells NB 2 (lt_of_cell hA2)).trans hA2
  clear hR0 hO0 hA2 hk1
  obtain ⟨p0, p1, -⟩ : w1.cell? ⟨NB, 0, none⟩ = some (.int .i64 a) ∧ w1.cell? ⟨NB, 1, none⟩ = some (.int .i64 d) ∧ True := ⟨hR1.a0, hR1.a1, trivial⟩
  go_wp2
  go_loopg [7] n (fun gh ix wr => ∃ (j : Nat) (ys : List Value), j + gh = n ∧ ix = .int .i64 j ∧ wr.cell? ⟨NB, 2, none⟩ = some (.slice A n ca) ∧ Own wr base 1 (.slice A n ca) n ys ∧ Hid (∀ u ∈ ys, ∃ z : Int, u = .int .u8 z) ∧ Rest w wr base NB N1 N2 (.slice A n ca) a d B C n cb cc g (.slice A n ca))
  case atStart => exact ⟨0, _, by omega, rfl, hA1, hO1, fun u hu => (by obtain ⟨x, -, rfl⟩ := List.mem_map.1 hu; exact ⟨_, rfl⟩), hR1⟩
  case round =>
    clear hO1 hR1 hA1 p0 p1
    obtain ⟨j, ys, hjg, rfl, hA1, hO1, HY, hR1⟩ := hrel
    cases gk with
    | zero =>
      have hjn : j = n := by omega
      subst hjn
      have hge : ¬ (j : Int) < (j : Int) := by omega
      have HF := hide (And.intro hO1 hR1)
      clear hO1 hR1 HY
      go_wp2
      go_loopg [8] 40 (fun gh ix wr => ∃ (q : Nat) (A2 : Option Addr) (c2 : Nat) (ys : List Value), q + gh = 40 ∧ ix = .int .i64 q ∧ wr.cell? ⟨NB, 2, none⟩ = some (.slice A2 (j + q) c2) ∧ Own wr base 1 (.slice A2 (j + q) c2) (j + q) ys ∧ Rest w wr base NB N1 N2 (.slice A2 (j + q) c2) a d B C j cb cc g (.slice A j ca))
      case atStart => exact ⟨0, A, ca, _, by omega, rfl, hA1, HF.out.1, HF.out.2⟩
      case round =>
        clear hA1 HF
        obtain ⟨q, A2, c2, zs, hqg, rfl, hA1, hO1, hR1⟩ := hrel
        cases gk with
        | zero =>
          have hq : q = 40 := by omega
          subst hq
          have b0 := hR1.b0
          have b1 := hR1.b1
          have b2 := hR1.b2
          have e0 := hR1.c0
          have e1 := hR1.c1
          have e2 := hR1.c2
          have HF := hide hR1
          have lt := lt_of_cell hA1
          clear hO1
          go_wp2_with (go_at_call 25; refine (CS.out _ _ _ _ _ HF.out.rb HF.out.rc).mono ?_; rintro e w3 ⟨rfl, hk3⟩; have f2 := (hk3.cells NB 2 lt).trans hA1; have f5 := (hk3.cells N2 2 (lt_of_cell e2)).trans e2)
          go_ret
          exact ⟨rfl, HF.out.bl.trans (hk3.mono (by omega)), fun b o hb hne => ⟨(hk3.cells b o (Nat.lt_of_lt_of_le hb HF.out.sz)).trans (HF.out.fr b o hb hne), (hk3.thaw b o (Nat.lt_of_lt_of_le hb HF.out.sz)).trans (HF.out.ff b o hb hne)⟩⟩
        | succ gh =>
          have hlt : (q : Int) < 40 := by omega
          have hfz := hR1.fz
          have lt := lt_of_cell hA1
          have hnew : Row (wr.alloc (.cells #[.int .u8 1] 5)) (some ⟨wr.heap.size, 0, none⟩) (bytesV [1]) := Row.new_at _ _ _ _ _ _ rfl rfl
          have HF := hide hR1
          clear hR1
          go_wp2_with (at_builtin; refine wpList_append_row _ rfl _ _ 22 rfl base 5 i0 (.int .u8 0) 1 1 Try.underlying22 hi hi0 hi1 hi2 rfl (by decide) _ (j + q) zs rfl (hO1.alloc _) (some ⟨wr.heap.size, 0, none⟩) 1 1 (bytesV [1]) rfl rfl hnew (bytesV_one _) ?_ ?_ ?_ ?_)
          · unfold maxLen; omega
          · omega
          · simp; omega
          · intro v3 w3 hown3 hg3 hat3
            obtain ⟨A4, c4, rfl, -, -, -, -, -⟩ := hown3.form
            have nbo : some NB ≠ (Value.slice A2 (j + q) c2).ownBlock := fun e => (HF.out.nb NB e.symm).1 rfl
            have hR3 : Rest w w3 base NB N1 N2 (.slice A4 (j + q + 1) c4) a d B C j cb cc g (.slice A j ca) := HF.out.move
              (fun b o hb hne _ => (hg3.cell_far ⟨b, o, none⟩ (by simp; omega) hne).trans (World.cell?_alloc_lt wr _ ⟨b, o, none⟩ hb))
              ((hg3.frozen_far ⟨NB, 2, none⟩ (by simp; omega) nbo).trans ((World.frozen?_alloc_old _ _ ⟨_, _, none⟩ (by simp; omega)).trans hfz))
              (fun b o hb hne => (hg3.frozen_far ⟨b, o, none⟩ (by simp; omega) hne).trans (World.frozen?_alloc_old _ _ ⟨b, o, none⟩ (by show b ≠ _; omega)))
              (below_append (HF.out.bl.alloc (by omega) _) (hO1.alloc _) (Nat.le_refl _) (by simp; omega) hg3)
              (hat3.imp id fun h k hk => by have := h k hk; omega)
            have e2 := (hg3.cell_far ⟨NB, 2, none⟩ (by simp; omega) nbo).trans ((World.cell?_alloc_lt wr _ ⟨NB, 2, none⟩ lt).trans hA1)
            have ef := hR3.fz
            have lt3 := lt_of_cell e2
            have H3 := hide (And.intro hown3 hR3)
            clear hown3 hR3 hg3 hat3 hnew hO1 nbo
            go_wp2
            go_roundg gh
            case measure => omega
            case rel =>
              obtain ⟨hown3, hR3⟩ := H3.out
              exact ⟨q + 1, A4, c4, _, by omega, by go_num, (World.cell?_setCell_same _ _ _ e2).trans rfl, hown3.far (fun k hk => (hR3.nb k hk).1) _,
                hR3.move (fun b o _ _ hno => World.cell?_setCell_other _ _ _ _ (by simp; omega)) ((World.frozen?_setCell _ _ _ _).trans ef) (fun b o _ _ => World.frozen?_setCell _ _ _ _) (hR3.bl.setCell (by simpa using hbN) _) (.inl rfl)⟩
    | succ gh =>
      have hlt : (j : Int) < (n : Int) := by omega
      have hjn : j < n := by omega
      obtain ⟨ga, oo, rfl, hcj⟩ := hO1.row.at_ (k := j) (by have := hO1.1; omega)
      obtain ⟨z, hz⟩ := HY.out _ (List.getElem_mem (by have := hO1.1; omega : j < ys.length))
      rw [hz] at hcj
      have hfj : wr.frozen? ⟨ga, oo + j, none⟩ = false := by
        rcases hO1.2 with ⟨hv, _⟩ | ⟨g', off', cap, hv, hb, hg, hnc, hcm, hx, hc⟩
        · cases hv
        · injection hv with hA _ hcc
          injection hA with hA; injection hA with h1 h2
          subst h1; subst h2; subst hcc
          exact (hc j (by omega)).2
      have hgl := (hO1.lt ga (by simp [Value.ownBlock])).1
      have hgx := lt_of_cell hcj
      have HF := hide (And.intro hO1 hR1)
      clear hz
      clear hO1 hR1
      go_wp2
      go_roundg gh
      case measure => omega
      case rel =>
        obtain ⟨hO1, hR1⟩ := HF.out
        refine ⟨j + 1, _, by omega, by go_num, ?_, hO1.store hjn _, ?_, hR1.move (fun b o hb hne _ => World.cell?_setCell_other _ _ _ _ (by simp [Value.ownBlock] at hne; first | (simp; done) | (simp; omega) | (simp; exact fun h => absurd h hne))) ((World.frozen?_setCell _ _ _ _).trans hR1.fz) (fun b o _ _ => World.frozen?_setCell _ _ _ _) (hR1.bl.setCell (by simpa using hgl) _) (.inl rfl)⟩
        · have := hR1.nb ga (by simp [Value.ownBlock])
          rw [World.cell?_setCell_other _ _ _ _ (by first | (simp; done) | (simp; omega))]; exact hA1
        · intro u hu
          rcases List.mem_or_eq_of_mem_set hu with h | h
          · exact HY.out u h
          · exact ⟨_, h⟩
theorem held_any (a d : Int) (A B C : Option Addr) (n ca cb cc base : Nat) (g : List UInt8) (w : World) (hn : n ≤ 4194304) (hl : g.length = n) (hbase : base ≤ w.heap.size) (ho : Own w base 1 (.slice A n ca) n (bytesV g)) (hb : Row w B (bytesV g)) (hc : Row w C (bytesV g))
    (hvb : bytesV g ≠ [] → ∀ b off, B = some ⟨b, off, none⟩ → some b ≠ (Value.slice A n ca).ownBlock) (hvc : bytesV g ≠ [] → ∀ b off, C = some ⟨b, off, none⟩ → some b ≠ (Value.slice A n ca).ownBlock) :
    Calls Try.prog 17 #[.agg #[.int .i64 a, .int .i64 d, .slice A n ca], .agg #[.int .i64 a, .int .i64 d, .slice B n cb], .agg #[.int .i64 a, .int .i64 d, .slice C n cc]] w fun e w' => e = .returned (.bool true) ∧ Below base w w' :=
  (held_more a d A B C n ca cb cc base g w hn hl hbase ho hb hc hvb hvc).mono fun _ _ h => ⟨h.1, h.2.1⟩
end Go.Proofs.Ytbhgcbgaadnfpaa
