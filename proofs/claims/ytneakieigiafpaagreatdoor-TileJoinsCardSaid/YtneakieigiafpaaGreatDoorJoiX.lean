/- TileJoins, walked (written by gen/joix.py). -/
import Derived.Test.YtneakieigiafpaaGreatDoorJoiR
import Derived.Test.YtneakieigiafpaaGreatDoorJoiTY
import Derived.Test.YtneakieigiafpaaGreatDoorTCx
import Derived.Test.YtneakieigiafpaaGreatDoorGriW
namespace Go.Proofs.YtneakieigiafpaaGreatDoor
open Go.RowKit Go.Ex

theorem T0Box.grown {W W' : World} {b : Nat} {row : Option Nat} (h : T0Box W b) (hg : W.grownBy W' row) (hne : some b ≠ row) : T0Box W' b :=
  have c := fun o => hg.cell_far ⟨b, o, none⟩ h.lt hne
  have f := fun o => hg.frozen_far ⟨b, o, none⟩ h.lt hne
  ⟨(c 0).trans h.t0, (c 1).trans h.t1, (c 2).trans h.t2, (c 3).trans h.t3, (c 4).trans h.t4, (f 0).trans h.f0, (f 1).trans h.f1, (f 2).trans h.f2, (f 3).trans h.f3, (f 4).trans h.f4⟩
theorem lent_box {X W : World} {b base n c : Nat} {x y u v : Int} {A : Option Addr} {xs : List Value} (hz : T0Box W b) (ho : Own W base 3 (.slice A n c) n xs) (hne : ∀ k, (Value.slice A n c).ownBlock = some k → k ≠ b) (hk : Kept X W) (hb : X.heap.size ≤ b) :
    LBox (((((W.setCell ⟨b, 0, none⟩ (.int .i64 x)).setCell ⟨b, 1, none⟩ (.int .i64 y)).setCell ⟨b, 2, none⟩ (.int .i64 u)).setCell ⟨b, 3, none⟩ (.int .i64 v)).setCell ⟨b, 4, none⟩ (.slice A n c)) b x y u v A n c ∧ Own (((((W.setCell ⟨b, 0, none⟩ (.int .i64 x)).setCell ⟨b, 1, none⟩ (.int .i64 y)).setCell ⟨b, 2, none⟩ (.int .i64 u)).setCell ⟨b, 3, none⟩ (.int .i64 v)).setCell ⟨b, 4, none⟩ (.slice A n c)) base 3 (.slice A n c) n xs ∧ Kept X (((((W.setCell ⟨b, 0, none⟩ (.int .i64 x)).setCell ⟨b, 1, none⟩ (.int .i64 y)).setCell ⟨b, 2, none⟩ (.int .i64 u)).setCell ⟨b, 3, none⟩ (.int .i64 v)).setCell ⟨b, 4, none⟩ (.slice A n c)) := by
  refine ⟨⟨?_, ?_, ?_, ?_, ?_⟩, ((((ho.far (p := ⟨b, 0, none⟩) hne _).far (p := ⟨b, 1, none⟩) hne _).far (p := ⟨b, 2, none⟩) hne _).far (p := ⟨b, 3, none⟩) hne _).far (p := ⟨b, 4, none⟩) hne _, hz.stored hk hb _ _ _ _ _⟩
  · rw [World.cell?_setCell_other _ _ _ _ (by simp), World.cell?_setCell_other _ _ _ _ (by simp), World.cell?_setCell_other _ _ _ _ (by simp), World.cell?_setCell_other _ _ _ _ (by simp), World.cell?_setCell_same _ _ _ hz.t0]
  · rw [World.cell?_setCell_other _ _ _ _ (by simp), World.cell?_setCell_other _ _ _ _ (by simp), World.cell?_setCell_other _ _ _ _ (by simp), World.cell?_setCell_same _ _ _ (by rw [World.cell?_setCell_other _ _ _ _ (by simp)]; exact hz.t1)]
  · rw [World.cell?_setCell_other _ _ _ _ (by simp), World.cell?_setCell_other _ _ _ _ (by simp), World.cell?_setCell_same _ _ _ (by rw [World.cell?_setCell_other _ _ _ _ (by simp), World.cell?_setCell_other _ _ _ _ (by simp)]; exact hz.t2)]
  · rw [World.cell?_setCell_other _ _ _ _ (by simp), World.cell?_setCell_same _ _ _ (by rw [World.cell?_setCell_other _ _ _ _ (by simp), World.cell?_setCell_other _ _ _ _ (by simp), World.cell?_setCell_other _ _ _ _ (by simp)]; exact hz.t3)]
  · rw [World.cell?_setCell_same _ _ _ (by rw [World.cell?_setCell_other _ _ _ _ (by simp), World.cell?_setCell_other _ _ _ _ (by simp), World.cell?_setCell_other _ _ _ _ (by simp), World.cell?_setCell_other _ _ _ _ (by simp)]; exact hz.t4)]
/-- The law's own boxes. -/
structure JBx (w W : World) (g : GrD) (T : TilD) (AT : Option Addr) (nt ct : Nat) (rx ry ra rd : Int) : Prop where
  g : GBox W w.heap.size g
  t : LBox W (w.heap.size + 1) T.x T.y T.a T.d AT nt ct
  r : RcB W (w.heap.size + 1 + 1) rx ry ra rd
  k : Kept w W
theorem JBx.lt {w W : World} {g : GrD} {T : TilD} {AT : Option Addr} {nt ct : Nat} {rx ry ra rd : Int} (h : JBx w W g T AT nt ct rx ry ra rd) : w.heap.size + 1 + 1 < W.heap.size := h.r.lt
theorem JBx.below {w W W' : World} {g : GrD} {T : TilD} {AT : Option Addr} {nt ct B : Nat} {rx ry ra rd : Int} (h : JBx w W g T AT nt ct rx ry ra rd) (k : Below B W W') (hb : w.heap.size + 1 + 1 < B) : JBx w W' g T AT nt ct rx ry ra rd :=
  ⟨h.g.below k (by omega), h.t.below k (by omega), h.r.below k hb, h.k.trans (k.mono (by omega))⟩
theorem JBx.kept {w W W' : World} {g : GrD} {T : TilD} {AT : Option Addr} {nt ct : Nat} {rx ry ra rd : Int} (h : JBx w W g T AT nt ct rx ry ra rd) (k : Kept W W') : JBx w W' g T AT nt ct rx ry ra rd := h.below k h.lt
theorem JBx.new (w : World) (g : GrD) (T : TilD) (AT : Option Addr) (nt ct : Nat) (rx ry ra rd : Int) : JBx w (((w.alloc (.cells #[.bool g.re.neg, .string g.re.n, .int .i64 g.re.e, .bool g.im.neg, .string g.im.n, .int .i64 g.im.e, .int .i64 g.exp, .int .i64 g.across, .int .i64 g.down, .int .i64 g.wide, .int .i64 g.high] 31)).alloc (.cells #[.int .i64 T.x, .int .i64 T.y, .int .i64 T.a, .int .i64 T.d, .slice AT nt ct] 56)).alloc (.cells #[.int .i64 rx, .int .i64 ry, .int .i64 ra, .int .i64 rd] 38)) g T AT nt ct rx ry ra rd := by
  refine ⟨((GBox.new w g _ _ rfl).below ((Below.refl _ _).alloc (Nat.le_refl _) _) (by simp)).below ((Below.refl _ _).alloc (Nat.le_refl _) _) (by first | (simp; done) | (simp; omega)), (LBox.new _ _ _ _ _ _ _ _ _ _ (by simp)).kept ((Below.refl _ _).alloc (Nat.le_refl _) _), RcB.new _ _ _ _ _ _ _ (by simp), (((Below.refl _ w).alloc (Nat.le_refl _) _).alloc (by simp) _).alloc (by first | (simp; done) | (simp; omega)) _⟩

set_option maxRecDepth 100000 in
set_option maxHeartbeats 6400000 in
theorem joins_long (g : GrD) (A : Option Addr) (c Z : Nat) (T : TilD) (AT : Option Addr) (nt ct : Nat) (rx ry ra rd : Int) (w : World) (hH : HpOK id0 4096 laidH w)
    (hL : 200 < g.across ∨ 200 < g.down ∨ 1000 < ra ∨ 1000 < rd) :
    Calls Tryz.prog 12 #[.agg #[.bool g.re.neg, .string g.re.n, .int .i64 g.re.e, .bool g.im.neg, .string g.im.n, .int .i64 g.im.e, .int .i64 g.exp, .int .i64 g.across, .int .i64 g.down, .int .i64 g.wide, .int .i64 g.high], .slice A Z c, .agg #[.int .i64 T.x, .int .i64 T.y, .int .i64 T.a, .int .i64 T.d, .slice AT nt ct], .agg #[.int .i64 rx, .int .i64 ry, .int .i64 ra, .int .i64 rd]] w fun e w' => e = .returned (.bool true) ∧ Kept w w' := by
  have CL := hide (fun (W : World) (h : Kept w W) => lives_any (laid_keptG hH h))
  obtain ⟨X0, hX0⟩ : ∃ X, X = ((w.alloc (.cells #[.bool g.re.neg, .string g.re.n, .int .i64 g.re.e, .bool g.im.neg, .string g.im.n, .int .i64 g.im.e, .int .i64 g.exp, .int .i64 g.across, .int .i64 g.down, .int .i64 g.wide, .int .i64 g.high] 31)).alloc (.cells #[.int .i64 T.x, .int .i64 T.y, .int .i64 T.a, .int .i64 T.d, .slice AT nt ct] 56)).alloc (.cells #[.int .i64 rx, .int .i64 ry, .int .i64 ra, .int .i64 rd] 38) := ⟨_, rfl⟩
  have B0 := hide (show JBx w X0 g T AT nt ct rx ry ra rd by rw [hX0]; exact JBx.new w g T AT nt ct rx ry ra rd)
  rcases (show 200 < g.across ∨ (¬ 200 < g.across ∧ 200 < g.down) ∨ (¬ 200 < g.across ∧ ¬ 200 < g.down ∧ 1000 < ra) ∨ (¬ 200 < g.across ∧ ¬ 200 < g.down ∧ ¬ 1000 < ra ∧ 1000 < rd) by omega) with s1 | ⟨s1, s2⟩ | ⟨s1, s2, s3⟩ | ⟨s1, s2, s3, s4⟩
  all_goals
    clear hL hH
    go_enter Tryz.func12, Tryz.ntmps12
    go_upto_region 1 with fail
    rw [← hX0]
    clear hX0
    obtain ⟨⟨q0, q1, q2, q3, q4, q5, q6, q7, q8, q9, q10⟩, -, ⟨r0, r1, r2, r3⟩, -⟩ := B0.out
    go_wp2_with fail
    refine (CL.out _ B0.out.k).mono ?_
    rintro e w1 ⟨rfl, hk⟩
    have K1 := hide (B0.out.k.trans' hk)
    clear q0 q1 q2 q3 q4 q5 q6 q7 q8 q9 q10 r0 r1 r2 r3
    go_wp2_with fail
    go_ret
    exact ⟨rfl, K1.out⟩
theorem info_witX : (Tryz.prog.info? 69).map (fun i => (i.zero, i.size, i.bytes)) = some (some (.agg #[.int .u8 0, .int .i64 0, .int .i64 0]), 3, 24) := by kernel_rfl
theorem info_tilX : (Tryz.prog.info? 56).map (fun i => (i.zero, i.size, i.bytes)) = some (some (.agg #[.int .i64 0, .int .i64 0, .int .i64 0, .int .i64 0, .slice none 0 0]), 5, 56) := by kernel_rfl

set_option maxRecDepth 100000 in
set_option maxHeartbeats 6400000 in
theorem joins_walk (g : GrD) (A : Option Addr) (c Z : Nat) (TS : List TilH) (T : TilD) (AT : Option Addr) (nt ct : Nat) (rx ry ra rd : Int) (w : World) (hg : g.ok) (hT : Tils w A TS) (hZ : TS.length = Z) (hc : Z ≤ c) (hb : ∀ t ∈ TS, t.n * 24 + 24 ≤ 140737488355328) (hbZ : Z * 56 + 56 ≤ 140737488355328)
    (ht : TilAt w T AT nt ct) (hbt : nt * 24 + 24 ≤ 140737488355328) (hrx : in64 rx) (hry : in64 ry) (hra : in64 ra) (hrd : in64 rd) (hH : HpOK id0 4096 laidH w)
    (s1 : ¬ 200 < g.across) (s2 : ¬ 200 < g.down) (s3 : ¬ 1000 < ra) (s4 : ¬ 1000 < rd) :
    Calls Tryz.prog 12 #[.agg #[.bool g.re.neg, .string g.re.n, .int .i64 g.re.e, .bool g.im.neg, .string g.im.n, .int .i64 g.im.e, .int .i64 g.exp, .int .i64 g.across, .int .i64 g.down, .int .i64 g.wide, .int .i64 g.high], .slice A Z c, .agg #[.int .i64 T.x, .int .i64 T.y, .int .i64 T.a, .int .i64 T.d, .slice AT nt ct], .agg #[.int .i64 rx, .int .i64 ry, .int .i64 ra, .int .i64 rd]] w fun e w' => e = .returned (.bool true) ∧ Kept w w' := by
  have CL := hide (fun (W : World) (h : Kept w W) => lives_any (laid_keptG hH h))
  obtain ⟨i0, hi, hi0, hi1, hi2⟩ := info_parts info_witX
  obtain ⟨i1, hj, hj0, hj1, hj2⟩ := info_parts info_tilX
  obtain ⟨X0, hX0⟩ : ∃ X, X = ((w.alloc (.cells #[.bool g.re.neg, .string g.re.n, .int .i64 g.re.e, .bool g.im.neg, .string g.im.n, .int .i64 g.im.e, .int .i64 g.exp, .int .i64 g.across, .int .i64 g.down, .int .i64 g.wide, .int .i64 g.high] 31)).alloc (.cells #[.int .i64 T.x, .int .i64 T.y, .int .i64 T.a, .int .i64 T.d, .slice AT nt ct] 56)).alloc (.cells #[.int .i64 rx, .int .i64 ry, .int .i64 ra, .int .i64 rd] 38) := ⟨_, rfl⟩
  have B0 := hide (show JBx w X0 g T AT nt ct rx ry ra rd by rw [hX0]; exact JBx.new w g T AT nt ct rx ry ra rd)
  have HT := hide hT
  have HTT := hide ht
  have HZ := hide hZ
  have HBB := hide hb
  have HG := hide hg
  have HR4 := hide (And.intro hrx (And.intro hry (And.intro hra hrd)))
  clear hH hT ht hZ hb hg hrx hry hra hrd
  go_enter Tryz.func12, Tryz.ntmps12
  go_upto_region 1 with fail
  rw [← hX0]
  clear hX0
  obtain ⟨⟨q0, q1, q2, q3, q4, q5, q6, q7, q8, q9, q10⟩, ⟨t0, t1, t2, t3, t4⟩, ⟨r0, r1, r2, r3⟩, -⟩ := B0.out
  go_upto_region 3 with fail
  have hS : X0.cell? ⟨w.heap.size + 1, 0, none⟩ = some (.int .i64 T.x) ∧ X0.cell? ⟨w.heap.size + 1, 1, none⟩ = some (.int .i64 T.y) ∧ X0.cell? ⟨w.heap.size + 1, 2, none⟩ = some (.int .i64 T.a) ∧ X0.cell? ⟨w.heap.size + 1, 3, none⟩ = some (.int .i64 T.d) ∧ X0.cell? ⟨w.heap.size + 1, 4, none⟩ = some (.slice AT nt ct) := ⟨t0, t1, t2, t3, t4⟩
  have HS := hide hS
  have SK : Hid (∀ W, Kept X0 W → W.cell? ⟨w.heap.size + 1, 0, none⟩ = some (.int .i64 T.x) ∧ W.cell? ⟨w.heap.size + 1, 1, none⟩ = some (.int .i64 T.y) ∧ W.cell? ⟨w.heap.size + 1, 2, none⟩ = some (.int .i64 T.a) ∧ W.cell? ⟨w.heap.size + 1, 3, none⟩ = some (.int .i64 T.d) ∧ W.cell? ⟨w.heap.size + 1, 4, none⟩ = some (.slice AT nt ct)) := fun W hW => by
    have h9 := (B0.out.kept hW).t
    exact ⟨h9.t0, h9.t1, h9.t2, h9.t3, h9.t4⟩
  have HRW : Hid (∀ W, Kept X0 W → Row W AT (witV T.c)) := fun W hW => HTT.out.row.kept (B0.out.k.trans' hW)
  have HTL := hide HTT.out.len
  clear q0 q1 q2 q3 q4 q5 q6 q7 q8 q9 q10 t0 t1 t2 t3 t4 r0 r1 r2 r3 hS
  have hz0 := B0.out.lt
  go_cut [9] (fun v wx => ∃ q AO co, v = .pointer (some ⟨q, 0, none⟩) ∧ LBox wx q T.x T.y T.a T.d AO nt co ∧ Own wx X0.heap.size 3 (.slice AO nt co) nt (witV T.c) ∧ Kept X0 wx ∧ X0.heap.size ≤ q ∧ ∀ b, (Value.slice AO nt co).ownBlock = some b → b ≠ q)
  case first =>
    refine wp_region_L (fun W => W.cell? ⟨w.heap.size + 1, 0, none⟩ = some (.int .i64 T.x) ∧ W.cell? ⟨w.heap.size + 1, 1, none⟩ = some (.int .i64 T.y) ∧ W.cell? ⟨w.heap.size + 1, 2, none⟩ = some (.int .i64 T.a) ∧ W.cell? ⟨w.heap.size + 1, 3, none⟩ = some (.int .i64 T.d) ∧ W.cell? ⟨w.heap.size + 1, 4, none⟩ = some (.slice AT nt ct)) 8 (by kernel_rfl) ?_ (fun hHeld => ?_)
    · first | assumption | exact HS.out | exact SK.out _ (((Below.refl _ X0).alloc (Nat.le_refl _) _).drew) | exact SK.out _ ((((Below.refl _ X0).alloc (Nat.le_refl _) _).alloc (by simp) _).drew) | exact SK.out _ ((Below.refl _ X0).alloc (Nat.le_refl _) _) | exact SK.out _ (((Below.refl _ X0).alloc (Nat.le_refl _) _).alloc (by simp) _) | exact SK.out _ (Below.alloc K5 K5.size _)
    refine wpAnyL_take (i := 0) (v := ?_) (some 52) rfl rfl (by kernel_rfl) (by kernel_rfl) (by kernel_rfl) (by kernel_rfl) (fun _ _ _ h => h) (Or.inl ⟨by rfl, ?_⟩) (by assumption) ?_
    rotate_left
    · intro w hSw; (try dsimp only at hSw); go_simp; (try with_reducible rfl)
    try simp only [Act.put, List.setIfInBounds_toArray, List.set_cons_zero, List.set_cons_succ]
    refine wpAnyL_take (i := 1) (v := ?_) (some 53) rfl rfl (by kernel_rfl) (by kernel_rfl) (by kernel_rfl) (by kernel_rfl) (fun _ _ _ h => h) (Or.inl ⟨by rfl, ?_⟩) (by assumption) ?_
    rotate_left
    · intro w hSw; (try dsimp only at hSw); go_simp; (try with_reducible rfl)
    try simp only [Act.put, List.setIfInBounds_toArray, List.set_cons_zero, List.set_cons_succ]
    refine wpAnyL_take (i := 3) (v := ?_) (some 55) rfl rfl (by kernel_rfl) (by kernel_rfl) (by kernel_rfl) (by kernel_rfl) (fun _ _ _ h => h) (Or.inl ⟨by rfl, ?_⟩) (by assumption) ?_
    rotate_left
    · intro w hSw; (try dsimp only at hSw); go_simp; (try with_reducible rfl)
    try simp only [Act.put, List.setIfInBounds_toArray, List.set_cons_zero, List.set_cons_succ]
    refine wpAnyL_take (i := 4) (v := ?_) (some 56) rfl rfl (by kernel_rfl) (by kernel_rfl) (by kernel_rfl) (by kernel_rfl) (fun _ _ _ h => h) (Or.inl ⟨by rfl, ?_⟩) (by assumption) ?_
    rotate_left
    · intro w hSw; (try dsimp only at hSw); go_simp; (try with_reducible rfl)
    try simp only [Act.put, List.setIfInBounds_toArray, List.set_cons_zero, List.set_cons_succ]
    refine wpAnyL_two (i := 2) (j := 7) (by kernel_rfl) rfl rfl (fun K hK => ?_) (fun K hK => ?_)
    · skip
      go_simp
      refine hK.out _ _ ?_ (fun hHeld => ?_)
      · first | assumption | exact HS.out | exact SK.out _ (((Below.refl _ X0).alloc (Nat.le_refl _) _).drew) | exact SK.out _ ((((Below.refl _ X0).alloc (Nat.le_refl _) _).alloc (by simp) _).drew) | exact SK.out _ ((Below.refl _ X0).alloc (Nat.le_refl _) _) | exact SK.out _ (((Below.refl _ X0).alloc (Nat.le_refl _) _).alloc (by simp) _) | exact SK.out _ (Below.alloc K5 K5.size _)
      clear hK K
      try simp only [Act.put, List.setIfInBounds_toArray, List.set_cons_zero, List.set_cons_succ]
      refine wpAnyL_two (i := 5) (j := 7) (by kernel_rfl) rfl rfl (fun K hK => ?_) (fun K hK => ?_)
      · skip
        (refine step_append_row _ rfl _ _ 54 rfl X0.heap.size 69 i0 (.agg #[.int .u8 0, .int .i64 0, .int .i64 0]) 3 24 Tryz.underlying54 hi hi0 hi1 hi2 rfl (by decide) (.slice (some ⟨X0.heap.size, 0, none⟩) 0 0) 0 [] rfl (Own.new X0 #[] 69 (0, 0) 0 3 [] X0.heap.size X0.heap.size rfl (Nat.le_refl _) (by unfold maxLen; omega) rfl rfl (by simp)).drew AT nt ct (witV T.c) rfl (by rw [witV_length, HTL.out]) (HRW.out _ (((Below.refl _ X0).alloc (Nat.le_refl _) _).drew)) (witV_one _) (by unfold maxLen; omega) (by omega) (by first | (simp; done) | (simp; omega)) ?_; intro v5 w5 hown5 hg5 hat5; simp only [Nat.zero_add, List.nil_append] at hown5; have K5 : Kept X0 w5 := below_append (((Below.refl _ X0).alloc (Nat.le_refl _) _).drew) (Own.new X0 #[] 69 (0, 0) 0 3 [] X0.heap.size X0.heap.size rfl (Nat.le_refl _) (by unfold maxLen; omega) rfl rfl (by simp)).drew (Nat.le_refl _) (by first | (simp; done) | (simp; omega)) hg5; obtain ⟨A5, c5, rfl, -, -, -, -, -⟩ := hown5.form; have hS5 := SK.out w5 K5)
        refine hK.out _ _ ?_ (fun hHeld => ?_)
        · first | assumption | exact HS.out | exact SK.out _ (((Below.refl _ X0).alloc (Nat.le_refl _) _).drew) | exact SK.out _ ((((Below.refl _ X0).alloc (Nat.le_refl _) _).alloc (by simp) _).drew) | exact SK.out _ ((Below.refl _ X0).alloc (Nat.le_refl _) _) | exact SK.out _ (((Below.refl _ X0).alloc (Nat.le_refl _) _).alloc (by simp) _) | exact SK.out _ (Below.alloc K5 K5.size _)
        clear hK K
        try simp only [Act.put, List.setIfInBounds_toArray]
        refine wpAnyL_take (i := 6) (v := ?_) (some 58) rfl rfl (by kernel_rfl) (by kernel_rfl) (by kernel_rfl) (by kernel_rfl) (fun _ _ _ h => h) (Or.inl ⟨by rfl, ?_⟩) (by assumption) ?_
        rotate_left
        · intro w hSw; (try dsimp only at hSw); go_simp; (try with_reducible rfl)
        try simp only [Act.put, List.setIfInBounds_toArray, List.set_cons_zero, List.set_cons_succ]
        refine wpAnyL_one (i := 7) (by kernel_rfl) rfl (fun K hK => ?_)
        go_simp
        refine hK.out _ _ ?_ (fun hHeld => ?_)
        · first | assumption | exact HS.out | exact SK.out _ (((Below.refl _ X0).alloc (Nat.le_refl _) _).drew) | exact SK.out _ ((((Below.refl _ X0).alloc (Nat.le_refl _) _).alloc (by simp) _).drew) | exact SK.out _ ((Below.refl _ X0).alloc (Nat.le_refl _) _) | exact SK.out _ (((Below.refl _ X0).alloc (Nat.le_refl _) _).alloc (by simp) _) | exact SK.out _ (Below.alloc K5 K5.size _)
        clear hK K
        try simp only [Act.put, List.setIfInBounds_toArray, List.set_cons_zero, List.set_cons_succ]
        refine wpAnyL_end (by kernel_rfl) rfl (fun K hK => ?_)
        go_simp
        refine hK.out _ _ ?_
        clear hK K
        try simp only [Act.put, List.setIfInBounds_toArray, List.set_cons_zero, List.set_cons_succ]
        refine wpAnyL_done (by kernel_rfl) ?_ _
        go_wp2_with fail
        go_meet
        exact ⟨w5.heap.size, A5, c5, rfl, LBox.new _ _ _ _ _ _ _ _ _ _ rfl, hown5.alloc _, Below.alloc K5 K5.size _, K5.size, fun b hb => by have := (hown5.lt b hb).2; omega⟩
      · skip
        go_simp
        refine hK.out _ _ ?_ (fun hHeld => ?_)
        · first | assumption | exact HS.out | exact SK.out _ (((Below.refl _ X0).alloc (Nat.le_refl _) _).drew) | exact SK.out _ ((((Below.refl _ X0).alloc (Nat.le_refl _) _).alloc (by simp) _).drew) | exact SK.out _ ((Below.refl _ X0).alloc (Nat.le_refl _) _) | exact SK.out _ (((Below.refl _ X0).alloc (Nat.le_refl _) _).alloc (by simp) _) | exact SK.out _ (Below.alloc K5 K5.size _)
        clear hK K
        try simp only [Act.put, List.setIfInBounds_toArray, List.set_cons_zero, List.set_cons_succ]
        refine wpAnyL_one (i := 5) (by kernel_rfl) rfl (fun K hK => ?_)
        (refine step_append_row _ rfl _ _ 54 rfl X0.heap.size 69 i0 (.agg #[.int .u8 0, .int .i64 0, .int .i64 0]) 3 24 Tryz.underlying54 hi hi0 hi1 hi2 rfl (by decide) (.slice (some ⟨X0.heap.size, 0, none⟩) 0 0) 0 [] rfl ((Own.new X0 #[] 69 (0, 0) 0 3 [] X0.heap.size X0.heap.size rfl (Nat.le_refl _) (by unfold maxLen; omega) rfl rfl (by simp)).alloc (.cells #[.int .i64 0, .int .i64 0, .int .i64 0, .int .i64 0, .slice none 0 0] 56)).drew AT nt ct (witV T.c) rfl (by rw [witV_length, HTL.out]) (HRW.out _ ((((Below.refl _ X0).alloc (Nat.le_refl _) _).alloc (by simp) _).drew)) (witV_one _) (by unfold maxLen; omega) (by omega) (by first | (simp; done) | (simp; omega)) ?_; intro v5 w5 hown5 hg5 hat5; simp only [Nat.zero_add, List.nil_append] at hown5; have K5 : Kept X0 w5 := below_append ((((Below.refl _ X0).alloc (Nat.le_refl _) _).alloc (by simp) _).drew) ((Own.new X0 #[] 69 (0, 0) 0 3 [] X0.heap.size X0.heap.size rfl (Nat.le_refl _) (by unfold maxLen; omega) rfl rfl (by simp)).alloc (.cells #[.int .i64 0, .int .i64 0, .int .i64 0, .int .i64 0, .slice none 0 0] 56)).drew (Nat.le_refl _) (by first | (simp; done) | (simp; omega)) hg5; obtain ⟨A5, c5, rfl, -, -, -, -, -⟩ := hown5.form; have hS5 := SK.out w5 K5; have hne5 : ∀ k, (Value.slice A5 nt c5).ownBlock = some k → k ≠ X0.heap.size + 1 := (fun k hk => hat5.elim (fun h => (by rw [hk] at h; simp [Value.ownBlock] at h; omega)) (fun h => (by have := h k hk; simp at this; omega))); have HTB : T0Box w5 (X0.heap.size + 1) := T0Box.grown ((T0Box.new (X0.alloc (.cells #[] 69)) 56 (X0.heap.size + 1) (by simp)).kept ((Below.refl _ _).drew)) hg5 (by simp [Value.ownBlock]); obtain ⟨z0, z1, z2, z3, z4, f0, f1, f2, f3, f4⟩ := id HTB)
        refine hK.out _ _ ?_ (fun hHeld => ?_)
        · first | assumption | exact HS.out | exact SK.out _ (((Below.refl _ X0).alloc (Nat.le_refl _) _).drew) | exact SK.out _ ((((Below.refl _ X0).alloc (Nat.le_refl _) _).alloc (by simp) _).drew) | exact SK.out _ ((Below.refl _ X0).alloc (Nat.le_refl _) _) | exact SK.out _ (((Below.refl _ X0).alloc (Nat.le_refl _) _).alloc (by simp) _) | exact SK.out _ (Below.alloc K5 K5.size _)
        clear hK K
        try simp only [Act.put, List.setIfInBounds_toArray]
        refine wpAnyL_take (i := 6) (v := ?_) (some 58) rfl rfl (by kernel_rfl) (by kernel_rfl) (by kernel_rfl) (by kernel_rfl) (fun _ _ _ h => h) (Or.inl ⟨by rfl, ?_⟩) (by assumption) ?_
        rotate_left
        · intro w hSw; (try dsimp only at hSw); go_simp; (try with_reducible rfl)
        try simp only [Act.put, List.setIfInBounds_toArray, List.set_cons_zero, List.set_cons_succ]
        refine wpAnyL_end (by kernel_rfl) rfl (fun K hK => ?_)
        go_simp
        refine hK.out _ _ ?_
        clear hK K
        try simp only [Act.put, List.setIfInBounds_toArray, List.set_cons_zero, List.set_cons_succ]
        refine wpAnyL_done (by kernel_rfl) ?_ _
        go_wp2_with fail
        go_meet
        obtain ⟨g1, g2, g3⟩ := lent_box HTB hown5 hne5 K5 (by omega) (x := T.x) (y := T.y) (u := T.a) (v := T.d)
        exact ⟨_, A5, c5, rfl, g1, g2, g3, by omega, hne5⟩
    · skip
      go_simp
      refine hK.out _ _ ?_ (fun hHeld => ?_)
      · first | assumption | exact HS.out | exact SK.out _ (((Below.refl _ X0).alloc (Nat.le_refl _) _).drew) | exact SK.out _ ((((Below.refl _ X0).alloc (Nat.le_refl _) _).alloc (by simp) _).drew) | exact SK.out _ ((Below.refl _ X0).alloc (Nat.le_refl _) _) | exact SK.out _ (((Below.refl _ X0).alloc (Nat.le_refl _) _).alloc (by simp) _) | exact SK.out _ (Below.alloc K5 K5.size _)
      clear hK K
      try simp only [Act.put, List.setIfInBounds_toArray, List.set_cons_zero, List.set_cons_succ]
      refine wpAnyL_one (i := 2) (by kernel_rfl) rfl (fun K hK => ?_)
      go_simp
      refine hK.out _ _ ?_ (fun hHeld => ?_)
      · first | assumption | exact HS.out | exact SK.out _ (((Below.refl _ X0).alloc (Nat.le_refl _) _).drew) | exact SK.out _ ((((Below.refl _ X0).alloc (Nat.le_refl _) _).alloc (by simp) _).drew) | exact SK.out _ ((Below.refl _ X0).alloc (Nat.le_refl _) _) | exact SK.out _ (((Below.refl _ X0).alloc (Nat.le_refl _) _).alloc (by simp) _) | exact SK.out _ (Below.alloc K5 K5.size _)
      clear hK K
      try simp only [Act.put, List.setIfInBounds_toArray, List.set_cons_zero, List.set_cons_succ]
      refine wpAnyL_one (i := 5) (by kernel_rfl) rfl (fun K hK => ?_)
      (refine step_append_row _ rfl _ _ 54 rfl (X0.heap.size + 1) 69 i0 (.agg #[.int .u8 0, .int .i64 0, .int .i64 0]) 3 24 Tryz.underlying54 hi hi0 hi1 hi2 rfl (by decide) (.slice (some ⟨(X0.heap.size + 1), 0, none⟩) 0 0) 0 [] rfl (Own.new (X0.alloc (.cells #[.int .i64 0, .int .i64 0, .int .i64 0, .int .i64 0, .slice none 0 0] 56)) #[] 69 (0, 0) 0 3 [] (X0.heap.size + 1) (X0.heap.size + 1) (by simp) (Nat.le_refl _) (by unfold maxLen; omega) rfl rfl (by simp)).drew AT nt ct (witV T.c) rfl (by rw [witV_length, HTL.out]) (HRW.out _ ((((Below.refl _ X0).alloc (Nat.le_refl _) _).alloc (by simp) _).drew)) (witV_one _) (by unfold maxLen; omega) (by omega) (by first | (simp; done) | (simp; omega)) ?_; intro v5 w5 hown5 hg5 hat5; simp only [Nat.zero_add, List.nil_append] at hown5; have K5 : Kept X0 w5 := below_append ((((Below.refl _ X0).alloc (Nat.le_refl _) _).alloc (by simp) _).drew) (Own.new (X0.alloc (.cells #[.int .i64 0, .int .i64 0, .int .i64 0, .int .i64 0, .slice none 0 0] 56)) #[] 69 (0, 0) 0 3 [] (X0.heap.size + 1) (X0.heap.size + 1) (by simp) (Nat.le_refl _) (by unfold maxLen; omega) rfl rfl (by simp)).drew (by omega) (by first | (simp; done) | (simp; omega)) hg5; obtain ⟨A5, c5, rfl, -, -, -, -, -⟩ := hown5.form; have hS5 := SK.out w5 K5; have hne5 : ∀ k, (Value.slice A5 nt c5).ownBlock = some k → k ≠ X0.heap.size := (fun k hk => by have := (hown5.lt k hk).1; omega); have HTB : T0Box w5 X0.heap.size := T0Box.grown (((T0Box.new X0 56 X0.heap.size rfl).kept ((Below.refl _ _).alloc (Nat.le_refl _) _)).kept ((Below.refl _ _).drew)) hg5 (by simp [Value.ownBlock]); obtain ⟨z0, z1, z2, z3, z4, f0, f1, f2, f3, f4⟩ := id HTB)
      refine hK.out _ _ ?_ (fun hHeld => ?_)
      · first | assumption | exact HS.out | exact SK.out _ (((Below.refl _ X0).alloc (Nat.le_refl _) _).drew) | exact SK.out _ ((((Below.refl _ X0).alloc (Nat.le_refl _) _).alloc (by simp) _).drew) | exact SK.out _ ((Below.refl _ X0).alloc (Nat.le_refl _) _) | exact SK.out _ (((Below.refl _ X0).alloc (Nat.le_refl _) _).alloc (by simp) _) | exact SK.out _ (Below.alloc K5 K5.size _)
      clear hK K
      try simp only [Act.put, List.setIfInBounds_toArray]
      refine wpAnyL_take (i := 6) (v := ?_) (some 58) rfl rfl (by kernel_rfl) (by kernel_rfl) (by kernel_rfl) (by kernel_rfl) (fun _ _ _ h => h) (Or.inl ⟨by rfl, ?_⟩) (by assumption) ?_
      rotate_left
      · intro w hSw; (try dsimp only at hSw); go_simp; (try with_reducible rfl)
      try simp only [Act.put, List.setIfInBounds_toArray, List.set_cons_zero, List.set_cons_succ]
      refine wpAnyL_end (by kernel_rfl) rfl (fun K hK => ?_)
      go_simp
      refine hK.out _ _ ?_
      clear hK K
      try simp only [Act.put, List.setIfInBounds_toArray, List.set_cons_zero, List.set_cons_succ]
      refine wpAnyL_done (by kernel_rfl) ?_ _
      go_wp2_with fail
      go_meet
      obtain ⟨g1, g2, g3⟩ := lent_box HTB hown5 hne5 K5 (by omega) (x := T.x) (y := T.y) (u := T.a) (v := T.d)
      exact ⟨_, A5, c5, rfl, g1, g2.less (by omega), g3, by omega, hne5⟩
  case rest =>
  obtain ⟨q, AO, co, rfl, hB9, hO9, hK9, hq9, hne9⟩ := hcut
  have B1 := hide (B0.out.kept hK9)
  have L9 := hide hB9
  have O9 := hide hO9
  have Q9 := hide (And.intro hq9 hne9)
  clear hB9 hO9 hK9 hq9 hne9 HS SK HRW
  have hZ8 : (Z : Int) ≤ 2513169434916 := by omega
  go_wp2_with fail
  go_loopg [10, 11] Z (fun gh v10 ix wr => ∃ (k : Nat) (es : List TilH), k + gh = Z ∧ ix = .int .i64 k ∧ LTo wc TS k v10 es wr)
  case atStart => exact ⟨0, [], by omega, rfl, LTo.nil wc TS⟩
  case round =>
    obtain ⟨k, es, hkg, rfl, hlt⟩ := hrel
    cases gk with
    | zero =>
      have hge : ¬ (k : Int) < Z := by omega
      obtain rfl : Z = k := by omega
      obtain ⟨AL, cL, rfl, hcL, hTE⟩ := hlt.tils HZ.out (fun t ht => by
        have h9 := HT.out.each t ht
        exact ⟨h9.len, h9.ok, h9.max, ⟨h9.x0, h9.x1⟩, ⟨h9.y0, h9.y1⟩, ⟨h9.a0, h9.a1⟩, h9.d0, h9.d1⟩)
      have hTM := hlt.map HZ.out
      have HES := hide (hlt.len (by have := HZ.out; omega))
      have hZ9 : Z ≤ 9223372036854775807 := by omega
      have HL := hide hlt
      clear hlt hkg
      go_upto_region 9 with fail
      have S0 : Hid (∀ W, Kept wr W → JBx w W g T AT nt ct rx ry ra rd ∧ LBox W q T.x T.y T.a T.d AO nt co ∧ TilAt W T AO nt co ∧ TilAt W T AT nt ct ∧ Tils W AL es ∧ Tils W A TS) := fun W hW => by
        have h0 : Kept wc W := Below.trans HL.out.kept (hW.mono HL.out.kept.size)
        exact ⟨B1.out.kept h0, L9.out.kept h0, tilAt_own HTT.out (O9.out.kept h0), HTT.out.kept (B1.out.k.trans' h0), hTE.kept hW, HT.out.kept (B1.out.k.trans' h0)⟩
      obtain ⟨i1', o1', u1', e1', hC⟩ := cntT_form T nt
      have C1 : Hid (∀ W, TilAt W T AO nt co → Calls Tryz.prog 38 #[.agg #[.int .i64 T.x, .int .i64 T.y, .int .i64 T.a, .int .i64 T.d, .slice AO nt co]] W fun e w' => e = .returned (.tuple #[.int .i64 i1', .int .i64 o1', .int .i64 u1', .int .i64 e1']) ∧ Kept W w') := fun W h => by rw [← hC]; exact tcounts_any T AO nt co W h
      have C2 : Hid (∀ W, TilAt W T AT nt ct → Calls Tryz.prog 39 #[.agg #[.int .i64 T.x, .int .i64 T.y, .int .i64 T.a, .int .i64 T.d, .slice AT nt ct]] W fun e w' => e = .returned (.tuple #[.int .i64 i1', .int .i64 o1', .int .i64 u1', .int .i64 e1']) ∧ Kept W w') := fun W h => by rw [← hC]; exact refCounts_any T AT nt ct W h
      clear hC
      obtain ⟨⟨⟨q0, q1, q2, q3, q4, q5, q6, q7, q8, q9, q10⟩, ⟨t0, t1, t2, t3, t4⟩, ⟨r0, r1, r2, r3⟩, -⟩, ⟨x0, x1, x2, x3, x4⟩, -⟩ := S0.out wr (Below.refl _ _)
      go_upto_region 10 with (go_at_call 38; refine (C1.out _ (S0.out _ (Below.refl _ _)).2.2.1).mono ?_; rintro e w1 ⟨rfl, hkw1⟩; have Kw1 := hide (Below.trans (Below.refl wr.heap.size wr) (hkw1.mono (Below.size (Below.refl wr.heap.size wr)))))
      clear q0 q1 q2 q3 q4 q5 q6 q7 q8 q9 q10 t0 t1 t2 t3 t4 r0 r1 r2 r3 x0 x1 x2 x3 x4
      obtain ⟨⟨⟨q0, q1, q2, q3, q4, q5, q6, q7, q8, q9, q10⟩, ⟨t0, t1, t2, t3, t4⟩, ⟨r0, r1, r2, r3⟩, -⟩, ⟨x0, x1, x2, x3, x4⟩, -⟩ := S0.out w1 Kw1.out
      go_upto_region 11 with (go_at_call 39; refine (C2.out _ (S0.out _ Kw1.out).2.2.2.1).mono ?_; rintro e w2 ⟨rfl, hkw2⟩; have Kw2 := hide (Below.trans Kw1.out (hkw2.mono (Below.size Kw1.out))))
      clear q0 q1 q2 q3 q4 q5 q6 q7 q8 q9 q10 t0 t1 t2 t3 t4 r0 r1 r2 r3 x0 x1 x2 x3 x4
      obtain ⟨⟨⟨q0, q1, q2, q3, q4, q5, q6, q7, q8, q9, q10⟩, ⟨t0, t1, t2, t3, t4⟩, ⟨r0, r1, r2, r3⟩, -⟩, ⟨x0, x1, x2, x3, x4⟩, -⟩ := S0.out w2 Kw2.out
      obtain ⟨E, hE⟩ : ∃ E, E = joinE g (TS.map (·.T)) := ⟨_, rfl⟩
      obtain ⟨ja, hja⟩ : ∃ x, x = jnA g E := ⟨_, rfl⟩
      obtain ⟨jd, hjd⟩ : ∃ x, x = jnD g E := ⟨_, rfl⟩
      obtain ⟨CA, hCA⟩ : ∃ x, x = jnC g E (TS.map (·.T)) := ⟨_, rfl⟩
      have CJ : Hid (∀ W, Tils W AL es → Calls Tryz.prog 32 #[.agg #[.bool g.re.neg, .string g.re.n, .int .i64 g.re.e, .bool g.im.neg, .string g.im.n, .int .i64 g.im.e, .int .i64 g.exp, .int .i64 g.across, .int .i64 g.down, .int .i64 g.wide, .int .i64 g.high], .slice AL Z cL] W fun e w' => ∃ A c, e = .returned (.tuple #[.agg #[.int .i64 0, .int .i64 0, .int .i64 ja, .int .i64 jd, .slice A CA.length c], .int .i64 E]) ∧ Own w' W.heap.size 3 (.slice A CA.length c) CA.length (witV CA) ∧ Kept W w') := fun W h => by
        have h9 := tjoin_any g AL cL Z es W HG.out h HES.out hZ9 hcL
        rw [hTM, ← hE] at h9
        refine h9.mono fun e w' hp => ?_
        rw [hja, hjd, hCA]
        exact hp.uni
      have CK : Hid (∀ W, Tils W A TS → Calls Tryz.prog 40 #[.agg #[.bool g.re.neg, .string g.re.n, .int .i64 g.re.e, .bool g.im.neg, .string g.im.n, .int .i64 g.im.e, .int .i64 g.exp, .int .i64 g.across, .int .i64 g.down, .int .i64 g.wide, .int .i64 g.high], .slice A Z c] W fun e w' => ∃ A c, e = .returned (.tuple #[.agg #[.int .i64 0, .int .i64 0, .int .i64 ja, .int .i64 jd, .slice A CA.length c], .int .i64 E]) ∧ Own w' W.heap.size 3 (.slice A CA.length c) CA.length (witV CA) ∧ Kept W w') := fun W h => by
        have h9 := rjoin_any g A c Z TS W HG.out h HZ.out hZ9 hc
        rw [← hE] at h9
        refine h9.mono fun e w' hp => ?_
        rw [hja, hjd, hCA]
        exact hp.uni
      have HCA : Hid (CA.length ≤ 4611686018427387904) := by rw [hCA]; exact jnC_le hE
      clear hE hja hjd hCA hTM
      obtain ⟨Ec, hEc⟩ : ∃ E, E = cutE T nt rx ry ra rd := ⟨_, rfl⟩
      obtain ⟨cx, hcx⟩ : ∃ x, x = ctX Ec rx := ⟨_, rfl⟩
      obtain ⟨cy, hcy⟩ : ∃ x, x = ctX Ec ry := ⟨_, rfl⟩
      obtain ⟨cu, hcu⟩ : ∃ x, x = ctX Ec ra := ⟨_, rfl⟩
      obtain ⟨cv, hcv⟩ : ∃ x, x = ctX Ec rd := ⟨_, rfl⟩
      obtain ⟨CC, hCC⟩ : ∃ x, x = ctW Ec (cutP T rx ry ra rd) := ⟨_, rfl⟩
      have CX : Hid (∀ W, TilAt W T AO nt co → Calls Tryz.prog 41 #[.agg #[.int .i64 T.x, .int .i64 T.y, .int .i64 T.a, .int .i64 T.d, .slice AO nt co], .agg #[.int .i64 rx, .int .i64 ry, .int .i64 ra, .int .i64 rd]] W fun e w' => ∃ A c, e = .returned (.tuple #[.agg #[.int .i64 cx, .int .i64 cy, .int .i64 cu, .int .i64 cv, .slice A CC.length c], .int .i64 Ec]) ∧ Own w' W.heap.size 3 (.slice A CC.length c) CC.length (witV CC) ∧ Kept W w') := fun W h => by
        have h9 := tcut_any T AO nt co rx ry ra rd W h HR4.out.1 HR4.out.2.1 HR4.out.2.2.1 HR4.out.2.2.2
        rw [← hEc] at h9
        refine h9.mono fun e w' hp => ?_
        rw [hcx, hcy, hcu, hcv, hCC]
        exact hp.uni
      have CY : Hid (∀ W, TilAt W T AT nt ct → Calls Tryz.prog 42 #[.agg #[.int .i64 T.x, .int .i64 T.y, .int .i64 T.a, .int .i64 T.d, .slice AT nt ct], .agg #[.int .i64 rx, .int .i64 ry, .int .i64 ra, .int .i64 rd]] W fun e w' => ∃ A c, e = .returned (.tuple #[.agg #[.int .i64 cx, .int .i64 cy, .int .i64 cu, .int .i64 cv, .slice A CC.length c], .int .i64 Ec]) ∧ Own w' W.heap.size 3 (.slice A CC.length c) CC.length (witV CC) ∧ Kept W w') := fun W h => by
        have h9 := rcut_any T AT nt ct rx ry ra rd W h HR4.out.1 HR4.out.2.1 HR4.out.2.2.1 HR4.out.2.2.2
        rw [← hEc] at h9
        refine h9.mono fun e w' hp => ?_
        rw [hcx, hcy, hcu, hcv, hCC]
        exact hp.uni
      have HCC : Hid (CC.length ≤ 1000000) := by rw [hCC]; exact ctW_le _ _ _ _ _ _ (by omega) (by omega)
      clear hEc hcx hcy hcu hcv hCC
      go_upto_region 12 with (go_at_call 32; refine (CJ.out _ (S0.out _ Kw2.out).2.2.2.2.1).mono ?_; rintro e w3 ⟨A3, c3, rfl, ho3, hk3⟩)
      clear q0 q1 q2 q3 q4 q5 q6 q7 q8 q9 q10 t0 t1 t2 t3 t4 r0 r1 r2 r3 x0 x1 x2 x3 x4
      obtain ⟨X3, hX3⟩ : ∃ X, X = w3.alloc (.cells #[.int .i64 0, .int .i64 0, .int .i64 ja, .int .i64 jd, .slice A3 CA.length c3] 56) := ⟨_, rfl⟩
      rw [← hX3]
      have HK3 := hide (show Kept w2 X3 by rw [hX3]; exact Below.alloc hk3 (Below.size hk3) _)
      have KX3 := hide (show Kept wr X3 from Below.trans Kw2.out (HK3.out.mono (Below.size Kw2.out)))
      have LX3 := hide (show LBox X3 w3.heap.size 0 0 ja jd A3 CA.length c3 by rw [hX3]; exact LBox.new _ _ _ _ _ _ _ _ _ _ rfl)
      have OX3 := hide (show Own X3 w2.heap.size 3 (.slice A3 CA.length c3) CA.length (witV CA) by rw [hX3]; exact ho3.alloc _)
      have FZ3 := hide (show X3.frozen? ⟨w3.heap.size, 4, none⟩ = false by rw [hX3]; exact fz_fresh _ _ _ _)
      have LT3 := hide ho3.lt
      have SZ3 := hide (And.intro (Below.size hk3) (show w3.heap.size < X3.heap.size by rw [hX3]; simp))
      clear hX3 ho3 hk3
      obtain ⟨⟨⟨q0, q1, q2, q3, q4, q5, q6, q7, q8, q9, q10⟩, ⟨t0, t1, t2, t3, t4⟩, ⟨r0, r1, r2, r3⟩, -⟩, ⟨x0, x1, x2, x3, x4⟩, -⟩ := S0.out X3 KX3.out
      go_upto_region 13 with (go_at_call 40; refine (CK.out _ (S0.out _ KX3.out).2.2.2.2.2).mono ?_; rintro e w4 ⟨A4, c4, rfl, ho4, hk4⟩)
      clear q0 q1 q2 q3 q4 q5 q6 q7 q8 q9 q10 t0 t1 t2 t3 t4 r0 r1 r2 r3 x0 x1 x2 x3 x4
      obtain ⟨X4, hX4⟩ : ∃ X, X = w4.alloc (.cells #[.int .i64 0, .int .i64 0, .int .i64 ja, .int .i64 jd, .slice A4 CA.length c4] 56) := ⟨_, rfl⟩
      rw [← hX4]
      have HK4 := hide (show Kept X3 X4 by rw [hX4]; exact Below.alloc hk4 (Below.size hk4) _)
      have KX4 := hide (show Kept wr X4 from Below.trans KX3.out (HK4.out.mono (Below.size KX3.out)))
      have LX4 := hide (show LBox X4 w4.heap.size 0 0 ja jd A4 CA.length c4 by rw [hX4]; exact LBox.new _ _ _ _ _ _ _ _ _ _ rfl)
      have OX4 := hide (show Own X4 X3.heap.size 3 (.slice A4 CA.length c4) CA.length (witV CA) by rw [hX4]; exact ho4.alloc _)
      have FZ4 := hide (show X4.frozen? ⟨w4.heap.size, 4, none⟩ = false by rw [hX4]; exact fz_fresh _ _ _ _)
      have LT4 := hide ho4.lt
      have SZ4 := hide (And.intro (Below.size hk4) (show w4.heap.size < X4.heap.size by rw [hX4]; simp))
      clear hX4 ho4 hk4
      have HX4 := hide (And.intro (LX3.out.kept HK4.out) (OX3.out.kept HK4.out))
      obtain ⟨⟨⟨q0, q1, q2, q3, q4, q5, q6, q7, q8, q9, q10⟩, ⟨t0, t1, t2, t3, t4⟩, ⟨r0, r1, r2, r3⟩, -⟩, ⟨x0, x1, x2, x3, x4⟩, -⟩ := S0.out X4 KX4.out
      go_upto_region 14 with (go_at_call 41; refine (CX.out _ (S0.out _ KX4.out).2.2.1).mono ?_; rintro e w5 ⟨A5, c5, rfl, ho5, hk5⟩)
      clear q0 q1 q2 q3 q4 q5 q6 q7 q8 q9 q10 t0 t1 t2 t3 t4 r0 r1 r2 r3 x0 x1 x2 x3 x4
      obtain ⟨X5, hX5⟩ : ∃ X, X = w5.alloc (.cells #[.int .i64 cx, .int .i64 cy, .int .i64 cu, .int .i64 cv, .slice A5 CC.length c5] 56) := ⟨_, rfl⟩
      rw [← hX5]
      have HK5 := hide (show Kept X4 X5 by rw [hX5]; exact Below.alloc hk5 (Below.size hk5) _)
      have KX5 := hide (show Kept wr X5 from Below.trans KX4.out (HK5.out.mono (Below.size KX4.out)))
      have LX5 := hide (show LBox X5 w5.heap.size cx cy cu cv A5 CC.length c5 by rw [hX5]; exact LBox.new _ _ _ _ _ _ _ _ _ _ rfl)
      have OX5 := hide (show Own X5 X4.heap.size 3 (.slice A5 CC.length c5) CC.length (witV CC) by rw [hX5]; exact ho5.alloc _)
      have FZ5 := hide (show X5.frozen? ⟨w5.heap.size, 4, none⟩ = false by rw [hX5]; exact fz_fresh _ _ _ _)
      have LT5 := hide ho5.lt
      have SZ5 := hide (And.intro (Below.size hk5) (show w5.heap.size < X5.heap.size by rw [hX5]; simp))
      clear hX5 ho5 hk5
      obtain ⟨⟨⟨q0, q1, q2, q3, q4, q5, q6, q7, q8, q9, q10⟩, ⟨t0, t1, t2, t3, t4⟩, ⟨r0, r1, r2, r3⟩, -⟩, ⟨x0, x1, x2, x3, x4⟩, -⟩ := S0.out X5 KX5.out
      go_upto_region 15 with (go_at_call 42; refine (CY.out _ (S0.out _ KX5.out).2.2.2.1).mono ?_; rintro e w6 ⟨A6, c6, rfl, ho6, hk6⟩)
      clear q0 q1 q2 q3 q4 q5 q6 q7 q8 q9 q10 t0 t1 t2 t3 t4 r0 r1 r2 r3 x0 x1 x2 x3 x4
      obtain ⟨X6, hX6⟩ : ∃ X, X = w6.alloc (.cells #[.int .i64 cx, .int .i64 cy, .int .i64 cu, .int .i64 cv, .slice A6 CC.length c6] 56) := ⟨_, rfl⟩
      rw [← hX6]
      have HK6 := hide (show Kept X5 X6 by rw [hX6]; exact Below.alloc hk6 (Below.size hk6) _)
      have KX6 := hide (show Kept wr X6 from Below.trans KX5.out (HK6.out.mono (Below.size KX5.out)))
      have LX6 := hide (show LBox X6 w6.heap.size cx cy cu cv A6 CC.length c6 by rw [hX6]; exact LBox.new _ _ _ _ _ _ _ _ _ _ rfl)
      have OX6 := hide (show Own X6 X5.heap.size 3 (.slice A6 CC.length c6) CC.length (witV CC) by rw [hX6]; exact ho6.alloc _)
      have FZ6 := hide (show X6.frozen? ⟨w6.heap.size, 4, none⟩ = false by rw [hX6]; exact fz_fresh _ _ _ _)
      have LT6 := hide ho6.lt
      have SZ6 := hide (And.intro (Below.size hk6) (show w6.heap.size < X6.heap.size by rw [hX6]; simp))
      clear hX6 ho6 hk6
      clear CJ CK CX CY C1 C2
      have K46 : Hid (Kept X4 X6) := Below.trans HK5.out (HK6.out.mono (Below.size HK5.out))
      have K36 : Hid (Kept X3 X6) := Below.trans HK4.out (K46.out.mono (Below.size HK4.out))
      have LA6 := hide (LX3.out.kept K36.out)
      have OA6 := hide (OX3.out.kept K36.out)
      have LB6 := hide (LX4.out.kept K46.out)
      have OB6 := hide (OX4.out.kept K46.out)
      have LC6 := hide (LX5.out.kept HK6.out)
      have OC6 := hide (OX5.out.kept HK6.out)
      have SA : Hid (∀ W, Kept X6 W → Calls Tryz.prog 29 #[.agg #[.int .i64 0, .int .i64 0, .int .i64 ja, .int .i64 jd, .slice A3 CA.length c3], .agg #[.int .i64 0, .int .i64 0, .int .i64 ja, .int .i64 jd, .slice A4 CA.length c4]] W fun e w' => e = .returned (.bool true) ∧ Kept W w') := fun W h => refTSame_yes 0 0 ja jd A3 A4 CA.length c3 c4 CA W rfl HCA.out (OA6.out.kept h).row (OB6.out.kept h).row
      have SC : Hid (∀ W, Kept X6 W → Calls Tryz.prog 29 #[.agg #[.int .i64 cx, .int .i64 cy, .int .i64 cu, .int .i64 cv, .slice A5 CC.length c5], .agg #[.int .i64 cx, .int .i64 cy, .int .i64 cu, .int .i64 cv, .slice A6 CC.length c6]] W fun e w' => e = .returned (.bool true) ∧ Kept W w') := fun W h => refTSame_yes cx cy cu cv A5 A6 CC.length c5 c6 CC W rfl (by have := HCC.out; omega) (OC6.out.kept h).row (OX6.out.kept h).row
      have SO : Hid (∀ W, Kept X6 W → Calls Tryz.prog 29 #[.agg #[.int .i64 T.x, .int .i64 T.y, .int .i64 T.a, .int .i64 T.d, .slice AO nt co], .agg #[.int .i64 T.x, .int .i64 T.y, .int .i64 T.a, .int .i64 T.d, .slice AT nt ct]] W fun e w' => e = .returned (.bool true) ∧ Kept W w') := fun W h => by
        have h9 := S0.out W (Below.trans KX6.out (h.mono (Below.size KX6.out)))
        exact refTSame_yes T.x T.y T.a T.d AO AT nt co ct T.c W HTL.out (by omega) h9.2.2.1.row h9.2.2.2.1.row
      obtain ⟨y0, y1, y2, y3, y4⟩ := LA6.out
      obtain ⟨z0, z1, z2, z3, z4⟩ := LB6.out
      obtain ⟨⟨-, ⟨t0, t1, t2, t3, t4⟩, -, -⟩, ⟨x0, x1, x2, x3, x4⟩, -⟩ := S0.out X6 KX6.out
      go_upto_region 17 with (first
        | (go_at_call 29; (with_reducible refine (SA.out _ (Below.refl _ _)).mono ?_); rintro e w7 ⟨rfl, hk7⟩; have K7 := hide hk7; clear y0 y1 y2 y3 y4 z0 z1 z2 z3 z4; obtain ⟨y0, y1, y2, y3, y4⟩ := LC6.out.kept K7.out; obtain ⟨z0, z1, z2, z3, z4⟩ := LX6.out.kept K7.out)
        | (go_at_call 29; (with_reducible refine (SC.out _ K7.out).mono ?_); rintro e w8 ⟨rfl, hk8⟩; have K8 := hide (K7.out.trans' hk8); clear y0 y1 y2 y3 y4 z0 z1 z2 z3 z4 t0 t1 t2 t3 t4 x0 x1 x2 x3 x4; obtain ⟨⟨-, ⟨t0, t1, t2, t3, t4⟩, -, -⟩, ⟨x0, x1, x2, x3, x4⟩, -⟩ := S0.out w8 (Below.trans KX6.out (K8.out.mono (Below.size KX6.out))))
        | (go_at_call 29; (with_reducible refine (SO.out _ K8.out).mono ?_); rintro e w9 ⟨rfl, hk9⟩; have K9 := hide (K8.out.trans' hk9)))
      obtain ⟨sa1, sa2⟩ := SZ3.out
      obtain ⟨sb1, sb2⟩ := SZ4.out
      obtain ⟨sc1, sc2⟩ := SZ5.out
      have hwr := Kw2.out.size
      have hwc := HL.out.kept.size
      have GA : Hid (∀ t ∈ es, ∀ b, t.blk = some b → WOff wc CA w3.heap.size A3 c3 w4.heap.size A4 c4 b ∧ w5.heap.size ≠ b ∧ ∀ k, (Value.slice A5 CC.length c5).ownBlock = some k → k ≠ b) := fun t ht b hb => by
        have h1 := (HL.out.each t ht).lt b hb
        exact ⟨⟨h1.1, by omega, by omega, fun k hk => by have := LT3.out k hk; omega, fun k hk => by have := LT4.out k hk; omega⟩, by omega, fun k hk => by have := LT5.out k hk; omega⟩
      have GC : Hid (∀ b, (Value.slice A5 CC.length c5).ownBlock = some b → WOff wc CA w3.heap.size A3 c3 w4.heap.size A4 c4 b ∧ w5.heap.size ≠ b) := fun b hb => by
        have h1 := LT5.out b hb
        exact ⟨⟨by omega, by omega, by omega, fun k hk => by have := LT3.out k hk; omega, fun k hk => by have := LT4.out k hk; omega⟩, by omega⟩
      have GP : Hid (WOff wc CA w3.heap.size A3 c3 w4.heap.size A4 c4 w5.heap.size) := ⟨by omega, by omega, by omega, fun k hk => by have := LT3.out k hk; omega, fun k hk => by have := LT4.out k hk; omega⟩
      have OFF := hide HL.out.off
      have DIS := hide HL.out.dist
      have KA : Kept wr w9 := Below.trans KX6.out (K9.out.mono (Below.size KX6.out))
      have F9 := hide (show WF wc q T AO nt co w2.heap.size ja jd CA w3.heap.size A3 c3 w4.heap.size A4 c4 w9 by
        have h0 : Kept wc w9 := Below.trans HL.out.kept (KA.mono hwc)
        exact ⟨h0, L9.out.kept h0, (O9.out.kept h0).less (Nat.zero_le _), L9.out.lt, fun b hb => (O9.out.lt b hb).2, LA6.out.kept K9.out, OA6.out.kept K9.out, LB6.out.kept K9.out, (OB6.out.kept K9.out).less (by omega)⟩)
      have E9 := hide (show WL wc (.slice AL Z cL) Z es w5.heap.size cx cy cu cv A5 CC.length c5 X4.heap.size CC 0 w9 from ⟨HL.out.own.kept KA, fun j t hj _ => (HL.out.each t (List.mem_of_getElem? hj)).kept KA, LC6.out.kept K9.out, (Kept.thaw K9.out _ _ LC6.out.lt).trans ((Kept.thaw HK6.out _ _ LX5.out.lt).trans FZ5.out), OC6.out.kept K9.out⟩)
      have SAB : Hid (∀ W, WF wc q T AO nt co w2.heap.size ja jd CA w3.heap.size A3 c3 w4.heap.size A4 c4 W → Calls Tryz.prog 29 #[.agg #[.int .i64 0, .int .i64 0, .int .i64 ja, .int .i64 jd, .slice A3 CA.length c3], .agg #[.int .i64 0, .int .i64 0, .int .i64 ja, .int .i64 jd, .slice A4 CA.length c4]] W fun e w' => e = .returned (.bool true) ∧ Kept W w') := fun W h => refTSame_yes 0 0 ja jd A3 A4 CA.length c3 c4 CA W rfl HCA.out h.oa.row h.ob.row
      have SOT : Hid (∀ W, WF wc q T AO nt co w2.heap.size ja jd CA w3.heap.size A3 c3 w4.heap.size A4 c4 W → Calls Tryz.prog 29 #[.agg #[.int .i64 T.x, .int .i64 T.y, .int .i64 T.a, .int .i64 T.d, .slice AO nt co], .agg #[.int .i64 T.x, .int .i64 T.y, .int .i64 T.a, .int .i64 T.d, .slice AT nt ct]] W fun e w' => e = .returned (.bool true) ∧ Kept W w') := fun W h => refTSame_yes T.x T.y T.a T.d AO AT nt co ct T.c W HTL.out (by omega) h.oo.row (HTT.out.kept (B1.out.k.trans' h.k)).row
      have TBX : Hid (∀ W, WF wc q T AO nt co w2.heap.size ja jd CA w3.heap.size A3 c3 w4.heap.size A4 c4 W → LBox W (w.heap.size + 1) T.x T.y T.a T.d AT nt ct) := fun W h => (B1.out.kept h.k).t
      clear KA sa1 sa2 sb1 sb2 sc1 sc2 SA SC SO S0
      go_wp2_with fail
      go_loopg [28, 29] Z (fun gh v28 v29 wl => ∃ m : Nat, m + gh = Z ∧ v28 = .int .i64 m ∧ WF wc q T AO nt co w2.heap.size ja jd CA w3.heap.size A3 c3 w4.heap.size A4 c4 wl ∧ WL wc (.slice AL Z cL) Z es w5.heap.size cx cy cu cv A5 CC.length c5 X4.heap.size CC m wl)
      case atStart => exact ⟨0, by omega, rfl, F9.out, E9.out⟩
      case round =>
        obtain ⟨m, hmg, rfl, hF, hE⟩ := hrel
        obtain ⟨wl, hwl⟩ : ∃ X, X = wr := ⟨_, rfl⟩
        subst hwl
        cases gk with
        | zero =>
          have hge : ¬ (m : Int) < Z := by omega
          have HF := hide hF
          have HE := hide hE
          clear hF hE
          go_upto_region 26 with fail
          go_wp2_with fail
          go_loopg [30] CC.length (fun gh v30 wm => ∃ (k : Nat) (xs : List Value), k + gh = CC.length ∧ v30 = .int .i64 k ∧ WF wc q T AO nt co w2.heap.size ja jd CA w3.heap.size A3 c3 w4.heap.size A4 c4 wm ∧ LBox wm w5.heap.size cx cy cu cv A5 CC.length c5 ∧ wm.frozen? ⟨w5.heap.size, 4, none⟩ = false ∧ Own wm X4.heap.size 3 (.slice A5 CC.length c5) CC.length xs)
          case atStart => exact ⟨0, _, by omega, rfl, HF.out, HE.out.lc, HE.out.fz, HE.out.oc⟩
          case round =>
            obtain ⟨k, xs, hkg, rfl, hF2, hC2, hz2, hO2⟩ := hrel
            obtain ⟨wm, hwm⟩ : ∃ X, X = wr := ⟨_, rfl⟩
            subst hwm
            have HF2 := hide hF2
            have HC2 := hide hC2
            have HZ2 := hide hz2
            have hcc := HCC.out
            obtain ⟨b0, b1, b2, b3, b4⟩ := hC2
            cases gk with
            | zero =>
              have hge2 : ¬ (k : Int) < CC.length := by omega
              have HO2 := hide hO2
              clear hF2 hO2
              go_upto_region 30 with fail
              go_wp2_with (at_builtin; refine wpList_append_row _ rfl _ _ 54 rfl X4.heap.size 69 i0 (.agg #[.int .u8 0, .int .i64 0, .int .i64 0]) 3 24 Tryz.underlying54 hi hi0 hi1 hi2 rfl (by decide) _ CC.length xs rfl (HO2.out.alloc _) (some ⟨wm.heap.size, 0, none⟩) 1 1 (witV [⟨0, 97, 0⟩]) rfl rfl (Row.new_at _ _ _ _ _ _ rfl rfl) (witV_one _) ?_ ?_ ?_ ?_)
              · unfold maxLen; omega
              · omega
              · have h1 := HC2.out.lt; have h2 := SZ5.out.1; simp; omega
              · intro v11 w11 hown11 hg11 hat11
                obtain ⟨A9, c9, rfl, -, -, -, -, -⟩ := hown11.form
                have HF3 := hide ((HF2.out.kept ((Below.refl _ wm).alloc (Nat.le_refl _) _)).grown hg11 (fun g hg' => (GC.out g hg').1))
                have hL3 := (HC2.out.kept ((Below.refl _ wm).alloc (Nat.le_refl _) _)).grown hg11 (fun e => (GC.out _ e.symm).2 rfl)
                have hz3 := (hg11.frozen_far ⟨w5.heap.size, 4, none⟩ (HC2.out.kept ((Below.refl _ wm).alloc (Nat.le_refl _) _)).lt (fun e => (GC.out _ e.symm).2 rfl)).trans ((Kept.thaw ((Below.refl _ wm).alloc (Nat.le_refl _) _) _ _ HC2.out.lt).trans hz2)
                have l4 := hL3.t4
                have hlt5 := hL3.lt
                clear hown11 hg11 hat11 b0 b1 b2 b3 b4 hz2 hL3
                go_upto_region 31 with fail
                obtain ⟨X12, hX12⟩ : ∃ X, X = w11.setCell ⟨w5.heap.size, 4, none⟩ (.slice A9 (CC.length + 1) c9) := ⟨_, rfl⟩
                rw [← hX12]
                have HF4 := hide (show WF wc q T AO nt co w2.heap.size ja jd CA w3.heap.size A3 c3 w4.heap.size A4 c4 X12 by rw [hX12]; exact HF3.out.put GP.out _ _)
                have c4 : X12.cell? ⟨w5.heap.size, 4, none⟩ = some (.slice A9 (CC.length + 1) c9) := by rw [hX12]; exact World.cell?_setCell_same _ _ _ l4
                have hlt6 : w5.heap.size < X12.heap.size := by rw [hX12]; simpa [World.setCell] using hlt5
                clear hX12 l4 hz3 hlt5
                obtain ⟨y0, y1, y2, y3, y4⟩ := HF4.out.la
                obtain ⟨z0, z1, z2, z3, z4⟩ := HF4.out.lb
                go_wp2_with (first
                  | (go_at_call 29; (with_reducible refine (SAB.out _ HF4.out).mono ?_); rintro e w13 ⟨rfl, hk13⟩; have HF5 := hide (HF4.out.kept hk13); have c4' := (hk13.cells _ 4 hlt6).trans c4; have hlt7 := Nat.lt_of_lt_of_le hlt6 hk13.size; obtain ⟨t0, t1, t2, t3, t4⟩ := TBX.out _ HF5.out; obtain ⟨x0, x1, x2, x3, x4⟩ := HF5.out.lo)
                  | (go_at_call 29; (with_reducible refine (SOT.out _ HF5.out).mono ?_); rintro e w14 ⟨rfl, hk14⟩; have HF6 := hide (HF5.out.kept hk14); have c4'' := (hk14.cells _ 4 hlt7).trans c4')
                  | (go_at_call 15; refine (CL.out _ (B1.out.k.trans' HF6.out.k)).mono ?_; rintro e w15 ⟨rfl, hk15⟩; have K15 := hide ((B1.out.k.trans' HF6.out.k).trans' hk15)))
                go_ret
                exact ⟨rfl, K15.out⟩
            | succ gj =>
              have hlt2 : (k : Int) < CC.length := by omega
              obtain ⟨g0, off, hgA⟩ := own_some hO2 (by omega)
              obtain ⟨ga1, ga2⟩ := GC.out g0 (by simp [hgA, Value.ownBlock])
              have HGA := hide hgA
              rw [hgA] at hO2 b4
              have HO2 := hide hO2
              have k0 : k * 3 < CC.length * 3 := by omega
              have k1 : k * 3 + 1 < CC.length * 3 := by omega
              have k2 : k * 3 + 2 < CC.length * 3 := by omega
              obtain ⟨⟨v0, c0'⟩, f0⟩ := hO2.cells k0
              obtain ⟨⟨v1, c1'⟩, f1⟩ := hO2.cells k1
              obtain ⟨⟨v2, c2'⟩, f2⟩ := hO2.cells k2
              rw [← Nat.add_assoc] at c1' f1 c2' f2
              have K012 := hide (And.intro k0 (And.intro k1 k2))
              have HG3 := hide (And.intro ga1 ga2)
              clear hF2 hO2 hgA k0 k1 k2 ga1 ga2
              go_wp2_with fail
              go_roundg gj
              case measure => omega
              case rel =>
                obtain ⟨ga1, ga2⟩ := HG3.out
                have hO3 := ((HO2.out.put K012.out.1 (.int .u8 0)).put K012.out.2.1 (.int .i64 98)).put K012.out.2.2 (.int .i64 0)
                rw [← HGA.out, ← Nat.add_assoc, ← Nat.add_assoc] at hO3
                have hF3 := ((HF2.out.put ga1 (off + k * 3) (.int .u8 0)).put ga1 (off + k * 3 + 1) (.int .i64 98)).put ga1 (off + k * 3 + 2) (.int .i64 0)
                have hC3 := ((HC2.out.put (p := ⟨g0, off + k * 3, none⟩) ga2 (.int .u8 0)).put (p := ⟨g0, off + k * 3 + 1, none⟩) ga2 (.int .i64 98)).put (p := ⟨g0, off + k * 3 + 2, none⟩) ga2 (.int .i64 0)
                exact ⟨k + 1, _, by omega, by go_num, hF3, hC3, (World.frozen?_setCell _ _ _ _).trans ((World.frozen?_setCell _ _ _ _).trans ((World.frozen?_setCell _ _ _ _).trans HZ2.out)), hO3⟩
        | succ gh =>
          have hml : (m : Int) < Z := by omega
          obtain ⟨u, hu⟩ : ∃ u, es[m]? = some u := ⟨_, List.getElem?_eq_getElem (by have := HES.out; omega)⟩
          obtain ⟨t, ht⟩ : ∃ t, TS[m]? = some t := ⟨_, List.getElem?_eq_getElem (by have := HZ.out; omega)⟩
          obtain ⟨hs1, hs2⟩ := HL.out.same_at HZ.out ht hu
          obtain ⟨lb, lo, hAL, l0, l1, l2, l3, l4⟩ := tilrow_at hE.hd.row hu
          obtain ⟨tb, toff, hAe, x0, x1, x2, x3, x4⟩ := Tils.at_ (HT.out.kept (B1.out.k.trans' hF.k)) ht
          subst hAL hAe
          rw [hs1] at l0 l1 l2 l3
          rw [hs2] at l4
          have HU := hide hu
          have HTM := hide ht
          have HF := hide hF
          have HE := hide hE
          have HSU := hide (And.intro hs1 hs2)
          have hcE := hE.ent m u hu (Nat.le_refl _)
          rw [hs1, hs2] at hcE
          have HO := hide hcE
          have hb9 := HBB.out t (List.mem_of_getElem? ht)
          have hbt : t.n ≤ 4611686018427387904 := by omega
          have htl := (HT.out.each t (List.mem_of_getElem? ht)).len
          have SL : Hid (∀ W, Kept wl W → Calls Tryz.prog 29 #[.agg #[.int .i64 t.T.x, .int .i64 t.T.y, .int .i64 t.T.a, .int .i64 t.T.d, .slice u.A t.n u.c], .agg #[.int .i64 t.T.x, .int .i64 t.T.y, .int .i64 t.T.a, .int .i64 t.T.d, .slice t.A t.n t.c]] W fun e w' => e = .returned (.bool true) ∧ Kept W w') := fun W h => refTSame_yes t.T.x t.T.y t.T.a t.T.d u.A t.A t.n u.c t.c t.T.c W htl hbt (HO.out.kept h).row (((HT.out.kept (B1.out.k.trans' HF.out.k)).each t (List.mem_of_getElem? HTM.out)).row.kept h)
          have hlb := lt_of_cell l0
          have htb := lt_of_cell x0
          have SK : Hid (∀ W, Kept wl W → W.cell? ⟨lb, lo + m * 5, none⟩ = some (.int .i64 t.T.x) ∧ W.cell? ⟨lb, lo + m * 5 + 1, none⟩ = some (.int .i64 t.T.y) ∧ W.cell? ⟨lb, lo + m * 5 + 2, none⟩ = some (.int .i64 t.T.a) ∧ W.cell? ⟨lb, lo + m * 5 + 3, none⟩ = some (.int .i64 t.T.d) ∧ W.cell? ⟨lb, lo + m * 5 + 4, none⟩ = some (.slice u.A t.n u.c) ∧ W.cell? ⟨tb, toff + m * 5, none⟩ = some (.int .i64 t.T.x) ∧ W.cell? ⟨tb, toff + m * 5 + 1, none⟩ = some (.int .i64 t.T.y) ∧ W.cell? ⟨tb, toff + m * 5 + 2, none⟩ = some (.int .i64 t.T.a) ∧ W.cell? ⟨tb, toff + m * 5 + 3, none⟩ = some (.int .i64 t.T.d) ∧ W.cell? ⟨tb, toff + m * 5 + 4, none⟩ = some (.slice t.A t.n t.c)) := fun W hW => ⟨(hW.cells _ _ hlb).trans l0, (hW.cells _ _ hlb).trans l1, (hW.cells _ _ hlb).trans l2, (hW.cells _ _ hlb).trans l3, (hW.cells _ _ hlb).trans l4, (hW.cells _ _ htb).trans x0, (hW.cells _ _ htb).trans x1, (hW.cells _ _ htb).trans x2, (hW.cells _ _ htb).trans x3, (hW.cells _ _ htb).trans x4⟩
          have HS := hide (SK.out wl (Below.refl _ _))
          clear hu ht hF hE hcE htl hbt hs1 hs2 l0 l1 l2 l3 l4 x0 x1 x2 x3 x4 hlb htb
          go_upto_region 20 with fail
          refine wp_region_L (fun W => W.cell? ⟨lb, lo + m * 5, none⟩ = some (.int .i64 t.T.x) ∧ W.cell? ⟨lb, lo + m * 5 + 1, none⟩ = some (.int .i64 t.T.y) ∧ W.cell? ⟨lb, lo + m * 5 + 2, none⟩ = some (.int .i64 t.T.a) ∧ W.cell? ⟨lb, lo + m * 5 + 3, none⟩ = some (.int .i64 t.T.d) ∧ W.cell? ⟨lb, lo + m * 5 + 4, none⟩ = some (.slice u.A t.n u.c) ∧ W.cell? ⟨tb, toff + m * 5, none⟩ = some (.int .i64 t.T.x) ∧ W.cell? ⟨tb, toff + m * 5 + 1, none⟩ = some (.int .i64 t.T.y) ∧ W.cell? ⟨tb, toff + m * 5 + 2, none⟩ = some (.int .i64 t.T.a) ∧ W.cell? ⟨tb, toff + m * 5 + 3, none⟩ = some (.int .i64 t.T.d) ∧ W.cell? ⟨tb, toff + m * 5 + 4, none⟩ = some (.slice t.A t.n t.c)) 999 (by kernel_rfl) ?_ (fun hHeld => ?_)
          · first | exact SK.out _ ((Below.refl _ wl).drew) | assumption
          refine wpAnyL_take (i := 0) (v := ?_) (some 171) rfl rfl (by kernel_rfl) (by kernel_rfl) (by kernel_rfl) (by kernel_rfl) (fun _ _ _ h => h) (Or.inl ⟨by rfl, ?_⟩) (by assumption) ?_
          rotate_left
          · intro w hSw; (try dsimp only at hSw); go_simp; (try with_reducible rfl)
          try simp only [Act.put, List.setIfInBounds_toArray, List.set_cons_zero, List.set_cons_succ]
          refine wpAnyL_take (i := 1) (v := ?_) (some 172) rfl rfl (by kernel_rfl) (by kernel_rfl) (by kernel_rfl) (by kernel_rfl) (fun _ _ _ h => h) (Or.inl ⟨by rfl, ?_⟩) (by assumption) ?_
          rotate_left
          · intro w hSw; (try dsimp only at hSw); go_simp; (try with_reducible rfl)
          try simp only [Act.put, List.setIfInBounds_toArray, List.set_cons_zero, List.set_cons_succ]
          refine wpAnyL_take (i := 2) (v := ?_) (some 173) rfl rfl (by kernel_rfl) (by kernel_rfl) (by kernel_rfl) (by kernel_rfl) (fun _ _ _ h => h) (Or.inl ⟨by rfl, ?_⟩) (by assumption) ?_
          rotate_left
          · intro w hSw; (try dsimp only at hSw); go_simp; (try with_reducible rfl)
          try simp only [Act.put, List.setIfInBounds_toArray, List.set_cons_zero, List.set_cons_succ]
          refine wpAnyL_take (i := 3) (v := ?_) (some 174) rfl rfl (by kernel_rfl) (by kernel_rfl) (by kernel_rfl) (by kernel_rfl) (fun _ _ _ h => h) (Or.inl ⟨by rfl, ?_⟩) (by assumption) ?_
          rotate_left
          · intro w hSw; (try dsimp only at hSw); go_simp; (try with_reducible rfl)
          try simp only [Act.put, List.setIfInBounds_toArray, List.set_cons_zero, List.set_cons_succ]
          refine wpAnyL_take (i := 4) (v := ?_) (some 175) rfl rfl (by kernel_rfl) (by kernel_rfl) (by kernel_rfl) (by kernel_rfl) (fun _ _ _ h => h) (Or.inl ⟨by rfl, ?_⟩) (by assumption) ?_
          rotate_left
          · intro w hSw; (try dsimp only at hSw); go_simp; (try with_reducible rfl)
          try simp only [Act.put, List.setIfInBounds_toArray, List.set_cons_zero, List.set_cons_succ]
          refine wpAnyL_take (i := 5) (v := ?_) (some 176) rfl rfl (by kernel_rfl) (by kernel_rfl) (by kernel_rfl) (by kernel_rfl) (fun _ _ _ h => h) (Or.inl ⟨by rfl, ?_⟩) (by assumption) ?_
          rotate_left
          · intro w hSw; (try dsimp only at hSw); go_simp; (try with_reducible rfl)
          try simp only [Act.put, List.setIfInBounds_toArray, List.set_cons_zero, List.set_cons_succ]
          refine wpAnyL_take (i := 6) (v := ?_) (some 177) rfl rfl (by kernel_rfl) (by kernel_rfl) (by kernel_rfl) (by kernel_rfl) (fun _ _ _ h => h) (Or.inl ⟨by rfl, ?_⟩) (by assumption) ?_
          rotate_left
          · intro w hSw; (try dsimp only at hSw); go_simp; (try with_reducible rfl)
          try simp only [Act.put, List.setIfInBounds_toArray, List.set_cons_zero, List.set_cons_succ]
          refine wpAnyL_take (i := 7) (v := ?_) (some 178) rfl rfl (by kernel_rfl) (by kernel_rfl) (by kernel_rfl) (by kernel_rfl) (fun _ _ _ h => h) (Or.inl ⟨by rfl, ?_⟩) (by assumption) ?_
          rotate_left
          · intro w hSw; (try dsimp only at hSw); go_simp; (try with_reducible rfl)
          try simp only [Act.put, List.setIfInBounds_toArray, List.set_cons_zero, List.set_cons_succ]
          refine wpAnyL_one (i := 8) (by kernel_rfl) rfl (fun K hK => ?_)
          go_simp
          ((with_reducible refine (SL.out _ ((Below.refl _ wl).drew)).mono ?_); rintro e w10 ⟨rfl, hk10⟩; have K10 : Kept wl w10 := ((Below.refl _ wl).drew).trans (show Below wl.heap.size wl.drew w10 from hk10); have hS10 := SK.out _ K10)
          refine hK.out _ _ ?_ (fun hHeld => ?_)
          · first | exact SK.out _ ((Below.refl _ wl).drew) | assumption
          clear hK K
          try simp only [Act.put, List.setIfInBounds_toArray, List.set_cons_zero, List.set_cons_succ]
          refine wpAnyL_take (i := 9) (v := ?_) (some 180) rfl rfl (by kernel_rfl) (by kernel_rfl) (by kernel_rfl) (by kernel_rfl) (fun _ _ _ h => h) (Or.inl ⟨by rfl, ?_⟩) (by assumption) ?_
          rotate_left
          · intro w hSw; (try dsimp only at hSw); go_simp; (try with_reducible rfl)
          try simp only [Act.put, List.setIfInBounds_toArray, List.set_cons_zero, List.set_cons_succ]
          refine wpAnyL_done (by kernel_rfl) ?_ _
          have F10 := hide (HF.out.kept K10)
          have E10 := hide ((HE.out.kept K10).less (Nat.le_succ m))
          have O10 := hide (HO.out.kept K10)
          clear hS10 hk10 K10
          go_wp2_with fail
          go_loopg [29] t.n (fun gh v29 wm => ∃ (k : Nat) (xs : List Value), k + gh = t.n ∧ v29 = .int .i64 k ∧ WF wc q T AO nt co w2.heap.size ja jd CA w3.heap.size A3 c3 w4.heap.size A4 c4 wm ∧ WL wc (.slice (some ⟨lb, lo, none⟩) Z cL) Z es w5.heap.size cx cy cu cv A5 CC.length c5 X4.heap.size CC (m + 1) wm ∧ Own wm wc.heap.size 3 (.slice u.A t.n u.c) t.n xs)
          case atStart => exact ⟨0, _, by omega, rfl, F10.out, E10.out, O10.out⟩
          case round =>
            obtain ⟨k, xs, hkg, rfl, hF2, hE2, hO2⟩ := hrel
            obtain ⟨wm, hwm⟩ : ∃ X, X = wr := ⟨_, rfl⟩
            subst hwm
            obtain ⟨lb', lo', hAL, -, -, -, -, l4⟩ := tilrow_at hE2.hd.row HU.out
            cases hAL
            rw [HSU.out.2] at l4
            have HF2 := hide hF2
            have HE2 := hide hE2
            cases gk with
            | zero =>
              have hge2 : ¬ (k : Int) < t.n := by omega
              clear hF2 hE2 hO2
              go_wp2_with fail
              go_roundg gh
              case measure => omega
              case rel => exact ⟨m + 1, by omega, by go_num, HF2.out, HE2.out⟩
            | succ gj =>
              have hlt2 : (k : Int) < t.n := by omega
              obtain ⟨g0, off, hgA⟩ := own_some hO2 (by omega)
              obtain ⟨ga1, ga2, ga3⟩ := GA.out u (List.mem_of_getElem? HU.out) g0 (by simp [TilH.blk, hgA, Value.ownBlock])
              have HGA := hide hgA
              rw [hgA] at hO2 l4
              have HO2 := hide hO2
              have k0 : k * 3 < t.n * 3 := by omega
              have k1 : k * 3 + 1 < t.n * 3 := by omega
              have k2 : k * 3 + 2 < t.n * 3 := by omega
              obtain ⟨⟨v0, c0⟩, f0⟩ := hO2.cells k0
              obtain ⟨⟨v1, c1⟩, f1⟩ := hO2.cells k1
              obtain ⟨⟨v2, c2⟩, f2⟩ := hO2.cells k2
              rw [← Nat.add_assoc] at c1 f1 c2 f2
              have K012 := hide (And.intro k0 (And.intro k1 k2))
              have HG3 := hide (And.intro ga1 (And.intro ga2 ga3))
              clear hF2 hE2 hO2 hgA k0 k1 k2 ga1 ga2 ga3
              go_wp2_with fail
              go_roundg gj
              case measure => omega
              case rel =>
                obtain ⟨ga1, ga2, ga3⟩ := HG3.out
                have hO3 := ((HO2.out.put K012.out.1 (.int .u8 0)).put K012.out.2.1 (.int .i64 99)).put K012.out.2.2 (.int .i64 0)
                rw [← HGA.out, ← Nat.add_assoc, ← Nat.add_assoc] at hO3
                have hF3 := ((HF2.out.put ga1 (off + k * 3) (.int .u8 0)).put ga1 (off + k * 3 + 1) (.int .i64 99)).put ga1 (off + k * 3 + 2) (.int .i64 0)
                have hE3 := ((HE2.out.put HU.out HGA.out OFF.out DIS.out ga2 ga3 (off + k * 3) (.int .u8 0)).put HU.out HGA.out OFF.out DIS.out ga2 ga3 (off + k * 3 + 1) (.int .i64 99)).put HU.out HGA.out OFF.out DIS.out ga2 ga3 (off + k * 3 + 2) (.int .i64 0)
                exact ⟨k + 1, _, by omega, by go_num, hF3, hE3, hO3⟩

    | succ gh =>
      have hkl : (k : Int) < Z := by omega
      obtain ⟨t, ht⟩ : ∃ t, TS[k]? = some t := ⟨_, List.getElem?_eq_getElem (by have := HZ.out; omega)⟩
      have hKW : Kept w wr := B1.out.k.trans' hlt.kept
      obtain ⟨tb, toff, hAe, x0, x1, x2, x3, x4⟩ := Tils.at_ (HT.out.kept hKW) ht
      subst hAe
      have HL := hide hlt
      have ta := (HT.out.kept hKW).each t (List.mem_of_getElem? ht)
      have HTK := hide ht
      have HRW : Hid (∀ W, Kept wr W → Row W t.A (witV t.T.c)) := fun W hW => ta.row.kept hW
      have HLN := hide ta.len
      have hbt9 := HBB.out t (List.mem_of_getElem? ht)
      have SK : Hid (∀ W, Kept wr W → W.cell? ⟨tb, toff + k * 5, none⟩ = some (.int .i64 t.T.x) ∧ W.cell? ⟨tb, toff + k * 5 + 1, none⟩ = some (.int .i64 t.T.y) ∧ W.cell? ⟨tb, toff + k * 5 + 2, none⟩ = some (.int .i64 t.T.a) ∧ W.cell? ⟨tb, toff + k * 5 + 3, none⟩ = some (.int .i64 t.T.d) ∧ W.cell? ⟨tb, toff + k * 5 + 4, none⟩ = some (.slice t.A t.n t.c)) := fun W hW => by
        have hb := lt_of_cell x0
        exact ⟨(hW.cells _ _ hb).trans x0, (hW.cells _ _ hb).trans x1, (hW.cells _ _ hb).trans x2, (hW.cells _ _ hb).trans x3, (hW.cells _ _ hb).trans x4⟩
      have SKB : Hid (∀ W, Below wc.heap.size wr W → W.cell? ⟨tb, toff + k * 5, none⟩ = some (.int .i64 t.T.x) ∧ W.cell? ⟨tb, toff + k * 5 + 1, none⟩ = some (.int .i64 t.T.y) ∧ W.cell? ⟨tb, toff + k * 5 + 2, none⟩ = some (.int .i64 t.T.a) ∧ W.cell? ⟨tb, toff + k * 5 + 3, none⟩ = some (.int .i64 t.T.d) ∧ W.cell? ⟨tb, toff + k * 5 + 4, none⟩ = some (.slice t.A t.n t.c)) := fun W hW => by
        obtain ⟨b9, o9, e9, y0, y1, y2, y3, y4⟩ := Tils.at_ (HT.out.kept (B1.out.k.trans' (show Kept wc W from Below.trans HL.out.kept hW))) ht
        cases e9
        exact ⟨y0, y1, y2, y3, y4⟩
      have HS := hide (SK.out wr (Below.refl _ _))
      have hwc := hlt.kept.size
      clear x0 x1 x2 x3 x4 hKW hlt ta ht
      go_upto_region 8 with fail
      refine wp_region_L (fun W => W.cell? ⟨tb, toff + k * 5, none⟩ = some (.int .i64 t.T.x) ∧ W.cell? ⟨tb, toff + k * 5 + 1, none⟩ = some (.int .i64 t.T.y) ∧ W.cell? ⟨tb, toff + k * 5 + 2, none⟩ = some (.int .i64 t.T.a) ∧ W.cell? ⟨tb, toff + k * 5 + 3, none⟩ = some (.int .i64 t.T.d) ∧ W.cell? ⟨tb, toff + k * 5 + 4, none⟩ = some (.slice t.A t.n t.c)) 16 (by kernel_rfl) ?_ (fun hHeld => ?_)
      · first | assumption | exact HS.out | exact SK.out _ ((Below.refl _ wr).drew) | exact SK.out _ (((Below.refl _ wr).alloc (Nat.le_refl _) _).drew) | exact SK.out _ ((Below.refl _ wr).alloc (Nat.le_refl _) _) | exact SK.out _ (Below.alloc K5 K5.size _)
      refine wpAnyL_take (i := 0) (v := ?_) (some 65) rfl rfl (by kernel_rfl) (by kernel_rfl) (by kernel_rfl) (by kernel_rfl) (fun _ _ _ h => h) (Or.inl ⟨by rfl, ?_⟩) (by assumption) ?_
      rotate_left
      · intro w hSw; (try dsimp only at hSw); go_simp; (try with_reducible rfl)
      try simp only [Act.put, List.setIfInBounds_toArray, List.set_cons_zero, List.set_cons_succ]
      refine wpAnyL_take (i := 1) (v := ?_) (some 66) rfl rfl (by kernel_rfl) (by kernel_rfl) (by kernel_rfl) (by kernel_rfl) (fun _ _ _ h => h) (Or.inl ⟨by rfl, ?_⟩) (by assumption) ?_
      rotate_left
      · intro w hSw; (try dsimp only at hSw); go_simp; (try with_reducible rfl)
      try simp only [Act.put, List.setIfInBounds_toArray, List.set_cons_zero, List.set_cons_succ]
      refine wpAnyL_take (i := 2) (v := ?_) (some 67) rfl rfl (by kernel_rfl) (by kernel_rfl) (by kernel_rfl) (by kernel_rfl) (fun _ _ _ h => h) (Or.inl ⟨by rfl, ?_⟩) (by assumption) ?_
      rotate_left
      · intro w hSw; (try dsimp only at hSw); go_simp; (try with_reducible rfl)
      try simp only [Act.put, List.setIfInBounds_toArray, List.set_cons_zero, List.set_cons_succ]
      refine wpAnyL_take (i := 3) (v := ?_) (some 68) rfl rfl (by kernel_rfl) (by kernel_rfl) (by kernel_rfl) (by kernel_rfl) (fun _ _ _ h => h) (Or.inl ⟨by rfl, ?_⟩) (by assumption) ?_
      rotate_left
      · intro w hSw; (try dsimp only at hSw); go_simp; (try with_reducible rfl)
      try simp only [Act.put, List.setIfInBounds_toArray, List.set_cons_zero, List.set_cons_succ]
      refine wpAnyL_take (i := 4) (v := ?_) (some 69) rfl rfl (by kernel_rfl) (by kernel_rfl) (by kernel_rfl) (by kernel_rfl) (fun _ _ _ h => h) (Or.inl ⟨by rfl, ?_⟩) (by assumption) ?_
      rotate_left
      · intro w hSw; (try dsimp only at hSw); go_simp; (try with_reducible rfl)
      try simp only [Act.put, List.setIfInBounds_toArray, List.set_cons_zero, List.set_cons_succ]
      refine wpAnyL_take (i := 5) (v := ?_) (some 70) rfl rfl (by kernel_rfl) (by kernel_rfl) (by kernel_rfl) (by kernel_rfl) (fun _ _ _ h => h) (Or.inl ⟨by rfl, ?_⟩) (by assumption) ?_
      rotate_left
      · intro w hSw; (try dsimp only at hSw); go_simp; (try with_reducible rfl)
      try simp only [Act.put, List.setIfInBounds_toArray, List.set_cons_zero, List.set_cons_succ]
      refine wpAnyL_take (i := 7) (v := ?_) (some 72) rfl rfl (by kernel_rfl) (by kernel_rfl) (by kernel_rfl) (by kernel_rfl) (fun _ _ _ h => h) (Or.inl ⟨by rfl, ?_⟩) (by assumption) ?_
      rotate_left
      · intro w hSw; (try dsimp only at hSw); go_simp; (try with_reducible rfl)
      try simp only [Act.put, List.setIfInBounds_toArray, List.set_cons_zero, List.set_cons_succ]
      refine wpAnyL_take (i := 8) (v := ?_) (some 73) rfl rfl (by kernel_rfl) (by kernel_rfl) (by kernel_rfl) (by kernel_rfl) (fun _ _ _ h => h) (Or.inl ⟨by rfl, ?_⟩) (by assumption) ?_
      rotate_left
      · intro w hSw; (try dsimp only at hSw); go_simp; (try with_reducible rfl)
      try simp only [Act.put, List.setIfInBounds_toArray, List.set_cons_zero, List.set_cons_succ]
      refine wpAnyL_take (i := 9) (v := ?_) (some 74) rfl rfl (by kernel_rfl) (by kernel_rfl) (by kernel_rfl) (by kernel_rfl) (fun _ _ _ h => h) (Or.inl ⟨by rfl, ?_⟩) (by assumption) ?_
      rotate_left
      · intro w hSw; (try dsimp only at hSw); go_simp; (try with_reducible rfl)
      try simp only [Act.put, List.setIfInBounds_toArray, List.set_cons_zero, List.set_cons_succ]
      refine wpAnyL_take (i := 10) (v := ?_) (some 75) rfl rfl (by kernel_rfl) (by kernel_rfl) (by kernel_rfl) (by kernel_rfl) (fun _ _ _ h => h) (Or.inl ⟨by rfl, ?_⟩) (by assumption) ?_
      rotate_left
      · intro w hSw; (try dsimp only at hSw); go_simp; (try with_reducible rfl)
      try simp only [Act.put, List.setIfInBounds_toArray, List.set_cons_zero, List.set_cons_succ]
      refine wpAnyL_take (i := 11) (v := ?_) (some 76) rfl rfl (by kernel_rfl) (by kernel_rfl) (by kernel_rfl) (by kernel_rfl) (fun _ _ _ h => h) (Or.inl ⟨by rfl, ?_⟩) (by assumption) ?_
      rotate_left
      · intro w hSw; (try dsimp only at hSw); go_simp; (try with_reducible rfl)
      try simp only [Act.put, List.setIfInBounds_toArray, List.set_cons_zero, List.set_cons_succ]
      refine wpAnyL_one (i := 6) (by kernel_rfl) rfl (fun K hK => ?_)
      go_simp
      refine hK.out _ _ ?_ (fun hHeld => ?_)
      · first | assumption | exact HS.out | exact SK.out _ ((Below.refl _ wr).drew) | exact SK.out _ (((Below.refl _ wr).alloc (Nat.le_refl _) _).drew) | exact SK.out _ ((Below.refl _ wr).alloc (Nat.le_refl _) _) | exact SK.out _ (Below.alloc K5 K5.size _)
      clear hK K
      try simp only [Act.put, List.setIfInBounds_toArray, List.set_cons_zero, List.set_cons_succ]
      refine wpAnyL_one (i := 12) (by kernel_rfl) rfl (fun K hK => ?_)
      (refine step_append_row _ rfl _ _ 54 rfl wr.heap.size 69 i0 (.agg #[.int .u8 0, .int .i64 0, .int .i64 0]) 3 24 Tryz.underlying54 hi hi0 hi1 hi2 rfl (by decide) (.slice (some ⟨wr.heap.size, 0, none⟩) 0 0) 0 [] rfl (Own.new wr #[] 69 (0, 0) 0 3 [] wr.heap.size wr.heap.size rfl (Nat.le_refl _) (by unfold maxLen; omega) rfl rfl (by simp)).drew t.A t.n t.c (witV t.T.c) rfl (by rw [witV_length, HLN.out]) (HRW.out _ (((Below.refl _ wr).alloc (Nat.le_refl _) _).drew)) (witV_one _) (by unfold maxLen; omega) (by omega) (by first | (simp; done) | (simp; omega)) ?_; intro v5 w5 hown5 hg5 hat5; simp only [Nat.zero_add, List.nil_append] at hown5; have K5 : Kept wr w5 := below_append (((Below.refl _ wr).alloc (Nat.le_refl _) _).drew) (Own.new wr #[] 69 (0, 0) 0 3 [] wr.heap.size wr.heap.size rfl (Nat.le_refl _) (by unfold maxLen; omega) rfl rfl (by simp)).drew (Nat.le_refl _) (by first | (simp; done) | (simp; omega)) hg5; obtain ⟨A5, c5, rfl, -, -, -, -, -⟩ := hown5.form; have hS5 := SK.out w5 K5)
      refine hK.out _ _ ?_ (fun hHeld => ?_)
      · first | assumption | exact HS.out | exact SK.out _ ((Below.refl _ wr).drew) | exact SK.out _ (((Below.refl _ wr).alloc (Nat.le_refl _) _).drew) | exact SK.out _ ((Below.refl _ wr).alloc (Nat.le_refl _) _) | exact SK.out _ (Below.alloc K5 K5.size _)
      clear hK K
      try simp only [Act.put, List.setIfInBounds_toArray]
      refine wpAnyL_take (i := 13) (v := ?_) (some 78) rfl rfl (by kernel_rfl) (by kernel_rfl) (by kernel_rfl) (by kernel_rfl) (fun _ _ _ h => h) (Or.inl ⟨by rfl, ?_⟩) (by assumption) ?_
      rotate_left
      · intro w hSw; (try dsimp only at hSw); go_simp; (try with_reducible rfl)
      try simp only [Act.put, List.setIfInBounds_toArray, List.set_cons_zero, List.set_cons_succ]
      refine wpAnyL_one (i := 14) (by kernel_rfl) rfl (fun K hK => ?_)
      go_simp
      refine hK.out _ _ ?_ (fun hHeld => ?_)
      · first | assumption | exact HS.out | exact SK.out _ ((Below.refl _ wr).drew) | exact SK.out _ (((Below.refl _ wr).alloc (Nat.le_refl _) _).drew) | exact SK.out _ ((Below.refl _ wr).alloc (Nat.le_refl _) _) | exact SK.out _ (Below.alloc K5 K5.size _)
      clear hK K
      try simp only [Act.put, List.setIfInBounds_toArray, List.set_cons_zero, List.set_cons_succ]
      refine wpAnyL_one (i := 15) (by kernel_rfl) rfl (fun K hK => ?_)
      (refine step_append_row _ rfl _ _ 87 rfl wc.heap.size 56 i1 (.agg #[.int .i64 0, .int .i64 0, .int .i64 0, .int .i64 0, .slice none 0 0]) 5 56 Tryz.underlying87 hj hj0 hj1 hj2 rfl (by decide) _ k (tilV es) rfl ((HL.out.own.kept K5).alloc _) (some ⟨w5.heap.size, 0, none⟩) 1 1 [.int .i64 t.T.x, .int .i64 t.T.y, .int .i64 t.T.a, .int .i64 t.T.d, .slice A5 t.n c5] rfl rfl (Row.new_at _ _ _ _ _ _ rfl rfl) (fun u hu => by simp at hu; rcases hu with rfl | rfl | rfl | rfl | rfl <;> rfl) (by unfold maxLen; omega) (by omega) (Nat.le_trans hwc (Nat.le_trans K5.size (by simp))) ?_; intro v6 w6 hown6 hg6 hat6; have K6 : Below wc.heap.size wr w6 := below_append ((Below.alloc (Below.mono K5 hwc) (Nat.le_trans hwc K5.size) _)) ((HL.out.own.kept K5).alloc _) (Nat.le_refl _) (Nat.le_trans hwc (Nat.le_trans K5.size (by simp))) hg6; have hS6 := SKB.out w6 K6)
      refine hK.out _ _ ?_ (fun hHeld => ?_)
      · first | assumption | exact HS.out | exact SK.out _ ((Below.refl _ wr).drew) | exact SK.out _ (((Below.refl _ wr).alloc (Nat.le_refl _) _).drew) | exact SK.out _ ((Below.refl _ wr).alloc (Nat.le_refl _) _) | exact SK.out _ (Below.alloc K5 K5.size _)
      clear hK K
      try simp only [Act.put, List.setIfInBounds_toArray]
      refine wpAnyL_end (by kernel_rfl) rfl (fun K hK => ?_)
      go_simp
      refine hK.out _ _ ?_
      clear hK K
      try simp only [Act.put, List.setIfInBounds_toArray, List.set_cons_zero, List.set_cons_succ]
      refine wpAnyL_done (by kernel_rfl) ?_ _
      have HW6 := hide (LTo.grow HL.out HTK.out (Below.alloc K5 K5.size _) (hown5.alloc _) hg6 hown6 hat6)
      clear hown5 hg5 hat5 hown6 hg6 hat6 hS5 hS6 K5 K6
      go_wp2_with fail
      go_roundg gh
      case measure => omega
      case rel => exact ⟨k + 1, _, by omega, by go_num, HW6.out⟩
/-- The law, of any grid, tiles, tile and rectangle. -/
theorem joins_any (g : GrD) (A : Option Addr) (c Z : Nat) (TS : List TilH) (T : TilD) (AT : Option Addr) (nt ct : Nat) (rx ry ra rd : Int) (w : World) (hg : g.ok) (hT : Tils w A TS) (hZ : TS.length = Z) (hc : Z ≤ c) (hb : ∀ t ∈ TS, t.n * 24 + 24 ≤ 140737488355328) (hbZ : Z * 56 + 56 ≤ 140737488355328)
    (ht : TilAt w T AT nt ct) (hbt : nt * 24 + 24 ≤ 140737488355328) (hrx : in64 rx) (hry : in64 ry) (hra : in64 ra) (hrd : in64 rd) (hH : HpOK id0 4096 laidH w) :
    Calls Tryz.prog 12 #[.agg #[.bool g.re.neg, .string g.re.n, .int .i64 g.re.e, .bool g.im.neg, .string g.im.n, .int .i64 g.im.e, .int .i64 g.exp, .int .i64 g.across, .int .i64 g.down, .int .i64 g.wide, .int .i64 g.high], .slice A Z c, .agg #[.int .i64 T.x, .int .i64 T.y, .int .i64 T.a, .int .i64 T.d, .slice AT nt ct], .agg #[.int .i64 rx, .int .i64 ry, .int .i64 ra, .int .i64 rd]] w fun e w' => e = .returned (.bool true) ∧ Kept w w' := by
  by_cases h : 200 < g.across ∨ 200 < g.down ∨ 1000 < ra ∨ 1000 < rd
  · exact joins_long g A c Z T AT nt ct rx ry ra rd w hH h
  · exact joins_walk g A c Z TS T AT nt ct rx ry ra rd w hg hT hZ hc hb hbZ ht hbt hrx hry hra hrd hH (fun e => h (.inl e)) (fun e => h (.inr (.inl e))) (fun e => h (.inr (.inr (.inl e)))) (fun e => h (.inr (.inr (.inr e))))
end Go.Proofs.YtneakieigiafpaaGreatDoor
