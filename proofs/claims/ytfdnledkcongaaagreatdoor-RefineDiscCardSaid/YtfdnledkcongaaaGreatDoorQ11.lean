/- Texts of one claim laid together: VieF, TreD, TreE, TreF, TreG, OrdM, AppS. -/
import Derived.Test.YtfdnledkcongaaaGreatDoorQ10
set_option linter.all false
namespace Go.Proofs.YtfdnledkcongaaaGreatDoor
open Go.RowKit Go.Proofs.Tryz
section
set_option maxHeartbeats 6400000
set_option maxRecDepth 100000
section
variable {s : SqD} (hs : sqB s = true)
include hs
theorem qmD : qaF (qaM s.left 1 (s.e - 1)) (qaM s.low 0 (s.e - 1)) = qaF (qaM s.left 1 (s.e - 1)) (s.low, 0) := by
 rw [qds _ (qas.1 hs).2.1]
theorem qoB : qaF (qaM s.left 0 (s.e - 1)) (qaM s.low 1 (s.e - 1)) = qaF (s.left, 0) (qaM s.low 1 (s.e - 1)) := by
 rw [qds _ (qas.1 hs).1]
end
theorem qm (s : SqD) (w : World) (hs : sqB s = true) (he : s.e = -4096) :
  Calls prog 115 #[.agg #[.bool s.left.neg, .string s.left.n, .int .i64 s.left.e, .bool s.low.neg, .string s.low.n, .int .i64 s.low.e, .int .i64 s.e]] w fun en w' => ∃ v, en = .returned v ∧ qex none v ∧ Kept w w' := by
 have RT : Hid (∀ W, Calls prog 54 #[.agg #[.bool s.left.neg, .string s.left.n, .int .i64 s.left.e, .bool s.low.neg, .string s.low.n, .int .i64 s.low.e, .int .i64 s.e]] W fun en w' => en = .returned (.int .i64 0) ∧ Kept W w') := fun W => by
  have := qbr s W (qde hs)
  rwa [hs] at this
 obtain ⟨hs1, hs2, hs3, hs4⟩ := qas.1 hs
 obtain ⟨⟨a0, a1, a2⟩, ⟨a3, a4, a5⟩, a6⟩ := s
 simp only at RT he ⊢
 subst he
 clear hs hs1 hs2 hs3 hs4
 go_enter func115, ntmps115
 go_upto_region 1 with fail
 obtain ⟨b, w1, hw, hb, B0, B1, K1, HB⟩ := qa7 w (LC3 a0 a1 a2 a3 a4 a5 (-4096)) 26 ZL2 141
 rw [← hw, ← hb]; clear hw hb
 obtain ⟨c0, c1, c2, c3, c4, c5, c6⟩ := B0.out.c7
 go_upto_region 2 with (go_at_call 54; (with_reducible refine (RT.out _).mono ?_); rintro e w3 ⟨rfl, hk3⟩; obtain ⟨c0, c1, c2, c3, c4, c5, c6⟩ := (B0.out.kept hk3).c7)
 have K3 := qh hk3
 clear hk3
 refine wp_region_list (wpList_plain rfl fun K hK => qaK ZL2 _ _ rfl (by kernel_rfl) (hK _ _ ?_))
 clear hK K
 refine wpList_plain rfl fun K hK => qaa (b := b + 1) (n := 28) _ _ rfl rfl rfl (B1.out.kept K3.out) rfl rfl (by kernel_rfl) rfl (hK _ _ ?_)
 clear hK K
 have B9 := qh ((B1.out.kept K3.out).row ZL2)
 have K9 := qh (Kept.row (K1.out.trans' K3.out) (show w.heap.size ≤ b + 1 by have := HB.out; omega) ZL2)
 generalize World.setRow _ _ _ = w9 at *
 go_wp2_with fail
 refine qbZ results115 underlying141 rfl (by kernel_rfl) rfl rfl B9.out rfl ⟨_, rfl, ⟨240, by omega, rfl⟩, K9.out⟩
theorem qoh (s : SqD) (w : World) (hs : sqB s = true) (he : ¬ s.e = -4096) (hT : T32 w) (hx : ¬ (qaM s.left 1 (s.e - 1)).2 = 0) :
  Calls prog 115 #[.agg #[.bool s.left.neg, .string s.left.n, .int .i64 s.left.e, .bool s.low.neg, .string s.low.n, .int .i64 s.low.e, .int .i64 s.e]] w fun en w' => ∃ v, en = .returned v ∧ qex none v ∧ Kept w w' := by
 have RT : Hid (∀ W, Calls prog 54 #[.agg #[.bool s.left.neg, .string s.left.n, .int .i64 s.left.e, .bool s.low.neg, .string s.low.n, .int .i64 s.low.e, .int .i64 s.e]] W fun en w' => en = .returned (.int .i64 0) ∧ Kept W w') := fun W => by
  have := qbr s W (qde hs)
  rwa [hs] at this
 obtain ⟨hs1, hs2, hs3, hs4⟩ := qas.1 hs
 have A0 : Hid (∀ W, Kept w W → Calls prog 55 #[.agg #[.bool s.left.neg, .string s.left.n, .int .i64 s.left.e, .bool s.low.neg, .string s.low.n, .int .i64 s.low.e, .int .i64 s.e], .int .i64 0, .int .i64 0] W fun en w' => en = .returned (qaC (⟨s.left, s.low⟩, 0)) ∧ Kept W w') := fun W h => by
  have := qbo s 0 0 W hs (by decide) (by decide) (hT.kept h)
  rwa [qhL hs] at this
 have A1 : Hid (∀ W, Kept w W → Calls prog 55 #[.agg #[.bool s.left.neg, .string s.left.n, .int .i64 s.left.e, .bool s.low.neg, .string s.low.n, .int .i64 s.low.e, .int .i64 s.e], .int .i64 1, .int .i64 0] W fun en w' => en = .returned (qaC (qaF (qaM s.left 1 (s.e - 1)) (s.low, 0))) ∧ Kept W w') := fun W h => by
  have := qbo s 1 0 W hs (by decide) (by decide) (hT.kept h)
  rwa [qmD hs] at this
 rw [qdp (.inl hx)] at A1
 obtain ⟨⟨a0, a1, a2⟩, ⟨a3, a4, a5⟩, a6⟩ := s
 simp only at RT A0 A1 hs3 hs4 he ⊢
 have heb : (a6 == -4096) = false := by simpa using he
 have hew : IntKind.i64.wrap (a6 - 1) = a6 - 1 := IntWalk.i64_in _ (by omega)
 clear hs hs1 hs2 hT hx
 go_enter func115, ntmps115
 go_upto_region 1 with fail
 obtain ⟨b, w1, hw, hb, B0, B1, K1, HB⟩ := qa7 w (LC3 a0 a1 a2 a3 a4 a5 a6) 26 ZL2 141
 rw [← hw, ← hb]; clear hw hb
 obtain ⟨c0, c1, c2, c3, c4, c5, c6⟩ := B0.out.c7
 go_upto_region 4 with (go_at_call 54; (with_reducible refine (RT.out _).mono ?_); rintro e w3 ⟨rfl, hk3⟩; obtain ⟨c0, c1, c2, c3, c4, c5, c6⟩ := (B0.out.kept hk3).c7)
 clear c0 c1 c2 c3 c4 c5 c6 RT
 have K4 := qh (Kept.new hk3 (.cells ZL2.toArray 141))
 have L4 := qh (Bx.new w3 ZL2 141 w3.heap.size rfl)
 obtain ⟨g, hg⟩ : ∃ g, g = w3.heap.size := ⟨_, rfl⟩
 rw [← hg] at L4 ⊢
 have HG := qh (show w1.heap.size ≤ g by have := hk3.size; omega)
 clear hg hk3
 generalize (w3.alloc (.cells ZL2.toArray 141)) = w4 at *
 go_wp2_with fail
 go_loopg [5, 6, 7, 17] 4 (fun gh v5 v6 v7 v17 wr => ∃ i : Nat, i + gh = 4 ∧ v17 = .int .i64 i ∧ Kept w1 wr ∧ ((i = 0 ∧ Bx wr g ZL2) ∨ (i = 1 ∧ Bx wr g (LC5 a0 a1 a2 a3 a4 a5 (a6 - 1) false ⟨#[]⟩ 0 false ⟨#[]⟩ 0 0 false ⟨#[]⟩ 0 false ⟨#[]⟩ 0 0 false ⟨#[]⟩ 0 false ⟨#[]⟩ 0 0))))
 case atStart => exact ⟨0, by omega, rfl, K4.out, .inl ⟨rfl, L4.out⟩⟩
 case round =>
  obtain ⟨i, hig, rfl, hk, hb⟩ := hrel
  have HK := qh hk
  have hgw : g < wr.heap.size := by rcases hb with ⟨-, hb⟩ | ⟨-, hb⟩ <;> exact hb.lt
  clear hk
  rcases hb with ⟨rfl, hb⟩ | ⟨rfl, hb⟩
  ·obtain rfl : gk = 4 := by omega
   have BL := qh hb
   clear hb
   obtain ⟨c0, c1, c2, c3, c4, c5, c6⟩ := (B0.out.kept HK.out).c7
   go_wp2_with (go_at_call 55; (with_reducible refine (A0.out _ (K1.out.trans' HK.out)).mono ?_); rintro e w5 ⟨rfl, hk5⟩; have B5 := qh (BL.out.kept hk5); have d0 := B5.out.c 0 rfl; have d1 := B5.out.c 1 rfl; have d2 := B5.out.c 2 rfl; have d3 := B5.out.c 3 rfl; have d4 := B5.out.c 4 rfl; have d5 := B5.out.c 5 rfl; have d6 := B5.out.c 6 rfl; have f0 := B5.out.f 0; have f1 := B5.out.f 1; have f2 := B5.out.f 2; have f3 := B5.out.f 3; have f4 := B5.out.f 4; have f5 := B5.out.f 5; have f6 := B5.out.f 6; have g5 := B5.out.lt; have K5 := qh (HK.out.trans' hk5); have B06 := ((B0.out.kept HK.out).kept hk5).c 6 rfl; have bb5 := ((B0.out.kept HK.out).kept hk5).lt; clear hk5 c0 c1 c2 c3 c4 c5 c6)
   go_roundg 3
   case measure => omega
   case rel =>
    refine ⟨1, by omega, by go_num, ?_, ?_⟩
    ·exact (Kept.new (Kept.set (Kept.set (Kept.set (Kept.set (Kept.set (Kept.set (Kept.set K5.out HG.out 0 _) HG.out 1 _) HG.out 2 _) HG.out 3 _) HG.out 4 _) HG.out 5 _) HG.out 6 _) _)
    ·refine (.inr (⟨rfl, ?_⟩))
     exact (Bx.kept (Bx.set (Bx.set (Bx.set (Bx.set (Bx.set (Bx.set (Bx.set B5.out 0 _ (by simp)) 1 _ (by simp)) 2 _ (by simp)) 3 _ (by simp)) 4 _ (by simp)) 5 _ (by simp)) 6 _ (by simp)) (Kept.new (Below.refl _ _) _))
  ·obtain rfl : gk = 3 := by omega
   have BL := qh hb
   clear hb
   obtain ⟨c0, c1, c2, c3, c4, c5, c6⟩ := (B0.out.kept HK.out).c7
   go_upto_region 9 with (go_at_call 55; (with_reducible refine (A1.out _ (K1.out.trans' HK.out)).mono ?_); rintro e w5 ⟨rfl, hk5⟩; have B5 := qh (BL.out.kept hk5); have K5 := qh (HK.out.trans' hk5); clear hk5 c0 c1 c2 c3 c4 c5 c6)
   replace K5 := qh (Kept.new K5.out (.cells (LC1 zG.re.neg zG.re.n zG.re.e zG.im.neg zG.im.n zG.im.e).toArray 28))
   generalize World.alloc w5 _ = w6 at *
   refine wp_region_list (wpList_plain rfl fun K hK => qaK ZL2 _ _ rfl (by kernel_rfl) (hK _ _ ?_))
   clear hK K
   refine wpList_plain rfl fun K hK => BigFrame.wp_move _ rfl (hK _ _ ?_)
   clear hK K
   refine wpList_plain rfl fun K hK => qaa (b := b + 1) (n := 28) _ _ rfl rfl rfl (B1.out.kept K5.out) rfl rfl (by kernel_rfl) rfl (hK _ _ ?_)
   clear hK K
   have B9 := qh ((B1.out.kept K5.out).row ZL2)
   have K9 := qh (Kept.row (K1.out.trans' K5.out) (show w.heap.size ≤ b + 1 by have := HB.out; omega) ZL2)
   generalize World.setRow _ _ _ = w9 at *
   go_wp2_with fail
   refine qbZ results115 underlying141 rfl (by kernel_rfl) rfl rfl B9.out rfl ⟨_, rfl, ⟨4, by omega, rfl⟩, K9.out⟩
theorem qol (s : SqD) (w : World) (hs : sqB s = true) (he : ¬ s.e = -4096) (hT : T32 w) (hx : (qaM s.left 1 (s.e - 1)).2 = 0) (hy : ¬ (qaM s.low 1 (s.e - 1)).2 = 0) :
  Calls prog 115 #[.agg #[.bool s.left.neg, .string s.left.n, .int .i64 s.left.e, .bool s.low.neg, .string s.low.n, .int .i64 s.low.e, .int .i64 s.e]] w fun en w' => ∃ v, en = .returned v ∧ qex none v ∧ Kept w w' := by
 have RT : Hid (∀ W, Calls prog 54 #[.agg #[.bool s.left.neg, .string s.left.n, .int .i64 s.left.e, .bool s.low.neg, .string s.low.n, .int .i64 s.low.e, .int .i64 s.e]] W fun en w' => en = .returned (.int .i64 0) ∧ Kept W w') := fun W => by
  have := qbr s W (qde hs)
  rwa [hs] at this
 obtain ⟨hs1, hs2, hs3, hs4⟩ := qas.1 hs
 have A0 : Hid (∀ W, Kept w W → Calls prog 55 #[.agg #[.bool s.left.neg, .string s.left.n, .int .i64 s.left.e, .bool s.low.neg, .string s.low.n, .int .i64 s.low.e, .int .i64 s.e], .int .i64 0, .int .i64 0] W fun en w' => en = .returned (qaC (⟨s.left, s.low⟩, 0)) ∧ Kept W w') := fun W h => by
  have := qbo s 0 0 W hs (by decide) (by decide) (hT.kept h)
  rwa [qhL hs] at this
 have A1 : Hid (∀ W, Kept w W → Calls prog 55 #[.agg #[.bool s.left.neg, .string s.left.n, .int .i64 s.left.e, .bool s.low.neg, .string s.low.n, .int .i64 s.low.e, .int .i64 s.e], .int .i64 1, .int .i64 0] W fun en w' => en = .returned (qaC (qaF (qaM s.left 1 (s.e - 1)) (s.low, 0))) ∧ Kept W w') := fun W h => by
  have := qbo s 1 0 W hs (by decide) (by decide) (hT.kept h)
  rwa [qmD hs] at this
 have A2 : Hid (∀ W, Kept w W → Calls prog 55 #[.agg #[.bool s.left.neg, .string s.left.n, .int .i64 s.left.e, .bool s.low.neg, .string s.low.n, .int .i64 s.low.e, .int .i64 s.e], .int .i64 0, .int .i64 1] W fun en w' => en = .returned (qaC (qaF (s.left, 0) (qaM s.low 1 (s.e - 1)))) ∧ Kept W w') := fun W h => by
  have := qbo s 0 1 W hs (by decide) (by decide) (hT.kept h)
  rwa [qoB hs] at this
 rw [qbz hx rfl] at A1
 rw [qdp (.inr hy)] at A2
 generalize (qaM s.left 1 (s.e - 1)).1 = X at *
 obtain ⟨x0, x1, x2⟩ := X
 obtain ⟨⟨a0, a1, a2⟩, ⟨a3, a4, a5⟩, a6⟩ := s
 simp only at RT A0 A1 A2 hs3 hs4 he ⊢
 have heb : (a6 == -4096) = false := by simpa using he
 have hew : IntKind.i64.wrap (a6 - 1) = a6 - 1 := IntWalk.i64_in _ (by omega)
 clear hs hs1 hs2 hT hx hy
 go_enter func115, ntmps115
 go_upto_region 1 with fail
 obtain ⟨b, w1, hw, hb, B0, B1, K1, HB⟩ := qa7 w (LC3 a0 a1 a2 a3 a4 a5 a6) 26 ZL2 141
 rw [← hw, ← hb]; clear hw hb
 obtain ⟨c0, c1, c2, c3, c4, c5, c6⟩ := B0.out.c7
 go_upto_region 4 with (go_at_call 54; (with_reducible refine (RT.out _).mono ?_); rintro e w3 ⟨rfl, hk3⟩; obtain ⟨c0, c1, c2, c3, c4, c5, c6⟩ := (B0.out.kept hk3).c7)
 clear c0 c1 c2 c3 c4 c5 c6 RT
 have K4 := qh (Kept.new hk3 (.cells ZL2.toArray 141))
 have L4 := qh (Bx.new w3 ZL2 141 w3.heap.size rfl)
 obtain ⟨g, hg⟩ : ∃ g, g = w3.heap.size := ⟨_, rfl⟩
 rw [← hg] at L4 ⊢
 have HG := qh (show w1.heap.size ≤ g by have := hk3.size; omega)
 clear hg hk3
 generalize (w3.alloc (.cells ZL2.toArray 141)) = w4 at *
 go_wp2_with fail
 go_loopg [5, 6, 7, 17] 4 (fun gh v5 v6 v7 v17 wr => ∃ i : Nat, i + gh = 4 ∧ v17 = .int .i64 i ∧ Kept w1 wr ∧ ((i = 0 ∧ Bx wr g ZL2) ∨ (i = 1 ∧ Bx wr g (LC5 a0 a1 a2 a3 a4 a5 (a6 - 1) false ⟨#[]⟩ 0 false ⟨#[]⟩ 0 0 false ⟨#[]⟩ 0 false ⟨#[]⟩ 0 0 false ⟨#[]⟩ 0 false ⟨#[]⟩ 0 0)) ∨ (i = 2 ∧ Bx wr g (LC5 a0 a1 a2 a3 a4 a5 (a6 - 1) x0 x1 x2 a3 a4 a5 (a6 - 1) false ⟨#[]⟩ 0 false ⟨#[]⟩ 0 0 false ⟨#[]⟩ 0 false ⟨#[]⟩ 0 0))))
 case atStart => exact ⟨0, by omega, rfl, K4.out, .inl ⟨rfl, L4.out⟩⟩
 case round =>
  obtain ⟨i, hig, rfl, hk, hb⟩ := hrel
  have HK := qh hk
  have hgw : g < wr.heap.size := by rcases hb with ⟨-, hb⟩ | ⟨-, hb⟩ | ⟨-, hb⟩ <;> exact hb.lt
  clear hk
  rcases hb with ⟨rfl, hb⟩ | ⟨rfl, hb⟩ | ⟨rfl, hb⟩
  ·obtain rfl : gk = 4 := by omega
   have BL := qh hb
   clear hb
   obtain ⟨c0, c1, c2, c3, c4, c5, c6⟩ := (B0.out.kept HK.out).c7
   go_wp2_with (go_at_call 55; (with_reducible refine (A0.out _ (K1.out.trans' HK.out)).mono ?_); rintro e w5 ⟨rfl, hk5⟩; have B5 := qh (BL.out.kept hk5); have d0 := B5.out.c 0 rfl; have d1 := B5.out.c 1 rfl; have d2 := B5.out.c 2 rfl; have d3 := B5.out.c 3 rfl; have d4 := B5.out.c 4 rfl; have d5 := B5.out.c 5 rfl; have d6 := B5.out.c 6 rfl; have f0 := B5.out.f 0; have f1 := B5.out.f 1; have f2 := B5.out.f 2; have f3 := B5.out.f 3; have f4 := B5.out.f 4; have f5 := B5.out.f 5; have f6 := B5.out.f 6; have g5 := B5.out.lt; have K5 := qh (HK.out.trans' hk5); have B06 := ((B0.out.kept HK.out).kept hk5).c 6 rfl; have bb5 := ((B0.out.kept HK.out).kept hk5).lt; clear hk5 c0 c1 c2 c3 c4 c5 c6)
   go_roundg 3
   case measure => omega
   case rel =>
    refine ⟨1, by omega, by go_num, ?_, ?_⟩
    ·exact (Kept.new (Kept.set (Kept.set (Kept.set (Kept.set (Kept.set (Kept.set (Kept.set K5.out HG.out 0 _) HG.out 1 _) HG.out 2 _) HG.out 3 _) HG.out 4 _) HG.out 5 _) HG.out 6 _) _)
    ·refine (.inr (.inl ⟨rfl, ?_⟩))
     exact (Bx.kept (Bx.set (Bx.set (Bx.set (Bx.set (Bx.set (Bx.set (Bx.set B5.out 0 _ (by simp)) 1 _ (by simp)) 2 _ (by simp)) 3 _ (by simp)) 4 _ (by simp)) 5 _ (by simp)) 6 _ (by simp)) (Kept.new (Below.refl _ _) _))
  ·obtain rfl : gk = 3 := by omega
   have BL := qh hb
   clear hb
   obtain ⟨c0, c1, c2, c3, c4, c5, c6⟩ := (B0.out.kept HK.out).c7
   go_wp2_with (go_at_call 55; (with_reducible refine (A1.out _ (K1.out.trans' HK.out)).mono ?_); rintro e w5 ⟨rfl, hk5⟩; have B5 := qh (BL.out.kept hk5); have d7 := B5.out.c 7 rfl; have d8 := B5.out.c 8 rfl; have d9 := B5.out.c 9 rfl; have d10 := B5.out.c 10 rfl; have d11 := B5.out.c 11 rfl; have d12 := B5.out.c 12 rfl; have d13 := B5.out.c 13 rfl; have f7 := B5.out.f 7; have f8 := B5.out.f 8; have f9 := B5.out.f 9; have f10 := B5.out.f 10; have f11 := B5.out.f 11; have f12 := B5.out.f 12; have f13 := B5.out.f 13; have g5 := B5.out.lt; have K5 := qh (HK.out.trans' hk5); have B06 := ((B0.out.kept HK.out).kept hk5).c 6 rfl; have bb5 := ((B0.out.kept HK.out).kept hk5).lt; clear hk5 c0 c1 c2 c3 c4 c5 c6)
   go_roundg 2
   case measure => omega
   case rel =>
    refine ⟨2, by omega, by go_num, ?_, ?_⟩
    ·exact (Kept.new (Kept.set (Kept.set (Kept.set (Kept.set (Kept.set (Kept.set (Kept.set K5.out HG.out 7 _) HG.out 8 _) HG.out 9 _) HG.out 10 _) HG.out 11 _) HG.out 12 _) HG.out 13 _) _)
    ·refine (.inr (.inr (⟨rfl, ?_⟩)))
     exact (Bx.kept (Bx.set (Bx.set (Bx.set (Bx.set (Bx.set (Bx.set (Bx.set B5.out 7 _ (by simp)) 8 _ (by simp)) 9 _ (by simp)) 10 _ (by simp)) 11 _ (by simp)) 12 _ (by simp)) 13 _ (by simp)) (Kept.new (Below.refl _ _) _))
  ·obtain rfl : gk = 2 := by omega
   have BL := qh hb
   clear hb
   obtain ⟨c0, c1, c2, c3, c4, c5, c6⟩ := (B0.out.kept HK.out).c7
   go_upto_region 9 with (go_at_call 55; (with_reducible refine (A2.out _ (K1.out.trans' HK.out)).mono ?_); rintro e w5 ⟨rfl, hk5⟩; have B5 := qh (BL.out.kept hk5); have K5 := qh (HK.out.trans' hk5); clear hk5 c0 c1 c2 c3 c4 c5 c6)
   replace K5 := qh (Kept.new K5.out (.cells (LC1 zG.re.neg zG.re.n zG.re.e zG.im.neg zG.im.n zG.im.e).toArray 28))
   generalize World.alloc w5 _ = w6 at *
   refine wp_region_list (wpList_plain rfl fun K hK => qaK ZL2 _ _ rfl (by kernel_rfl) (hK _ _ ?_))
   clear hK K
   refine wpList_plain rfl fun K hK => BigFrame.wp_move _ rfl (hK _ _ ?_)
   clear hK K
   refine wpList_plain rfl fun K hK => qaa (b := b + 1) (n := 28) _ _ rfl rfl rfl (B1.out.kept K5.out) rfl rfl (by kernel_rfl) rfl (hK _ _ ?_)
   clear hK K
   have B9 := qh ((B1.out.kept K5.out).row ZL2)
   have K9 := qh (Kept.row (K1.out.trans' K5.out) (show w.heap.size ≤ b + 1 by have := HB.out; omega) ZL2)
   generalize World.setRow _ _ _ = w9 at *
   go_wp2_with fail
   refine qbZ results115 underlying141 rfl (by kernel_rfl) rfl rfl B9.out rfl ⟨_, rfl, ⟨4, by omega, rfl⟩, K9.out⟩
theorem qnI (s : SqD) (w : World) (hs : sqB s = true) (he : ¬ s.e = -4096) (hT : T32 w) (hx : (qaM s.left 1 (s.e - 1)).2 = 0) (hy : (qaM s.low 1 (s.e - 1)).2 = 0) :
  Calls prog 115 #[.agg #[.bool s.left.neg, .string s.left.n, .int .i64 s.left.e, .bool s.low.neg, .string s.low.n, .int .i64 s.low.e, .int .i64 s.e]] w fun en w' => ∃ v, en = .returned v ∧ qex (some [⟨s.left, s.low, s.e - 1⟩, ⟨(qaM s.left 1 (s.e - 1)).1, s.low, s.e - 1⟩, ⟨s.left, (qaM s.low 1 (s.e - 1)).1, s.e - 1⟩, ⟨(qaM s.left 1 (s.e - 1)).1, (qaM s.low 1 (s.e - 1)).1, s.e - 1⟩]) v ∧ Kept w w' := by
 have RT : Hid (∀ W, Calls prog 54 #[.agg #[.bool s.left.neg, .string s.left.n, .int .i64 s.left.e, .bool s.low.neg, .string s.low.n, .int .i64 s.low.e, .int .i64 s.e]] W fun en w' => en = .returned (.int .i64 0) ∧ Kept W w') := fun W => by
  have := qbr s W (qde hs)
  rwa [hs] at this
 obtain ⟨hs1, hs2, hs3, hs4⟩ := qas.1 hs
 have A0 : Hid (∀ W, Kept w W → Calls prog 55 #[.agg #[.bool s.left.neg, .string s.left.n, .int .i64 s.left.e, .bool s.low.neg, .string s.low.n, .int .i64 s.low.e, .int .i64 s.e], .int .i64 0, .int .i64 0] W fun en w' => en = .returned (qaC (⟨s.left, s.low⟩, 0)) ∧ Kept W w') := fun W h => by
  have := qbo s 0 0 W hs (by decide) (by decide) (hT.kept h)
  rwa [qhL hs] at this
 have A1 : Hid (∀ W, Kept w W → Calls prog 55 #[.agg #[.bool s.left.neg, .string s.left.n, .int .i64 s.left.e, .bool s.low.neg, .string s.low.n, .int .i64 s.low.e, .int .i64 s.e], .int .i64 1, .int .i64 0] W fun en w' => en = .returned (qaC (qaF (qaM s.left 1 (s.e - 1)) (s.low, 0))) ∧ Kept W w') := fun W h => by
  have := qbo s 1 0 W hs (by decide) (by decide) (hT.kept h)
  rwa [qmD hs] at this
 have A2 : Hid (∀ W, Kept w W → Calls prog 55 #[.agg #[.bool s.left.neg, .string s.left.n, .int .i64 s.left.e, .bool s.low.neg, .string s.low.n, .int .i64 s.low.e, .int .i64 s.e], .int .i64 0, .int .i64 1] W fun en w' => en = .returned (qaC (qaF (s.left, 0) (qaM s.low 1 (s.e - 1)))) ∧ Kept W w') := fun W h => by
  have := qbo s 0 1 W hs (by decide) (by decide) (hT.kept h)
  rwa [qoB hs] at this
 have A3 : Hid (∀ W, Kept w W → Calls prog 55 #[.agg #[.bool s.left.neg, .string s.left.n, .int .i64 s.left.e, .bool s.low.neg, .string s.low.n, .int .i64 s.low.e, .int .i64 s.e], .int .i64 1, .int .i64 1] W fun en w' => en = .returned (qaC (qaF (qaM s.left 1 (s.e - 1)) (qaM s.low 1 (s.e - 1)))) ∧ Kept W w') := fun W h => by
  have := qbo s 1 1 W hs (by decide) (by decide) (hT.kept h)
  exact this
 rw [qbz hx rfl] at A1
 rw [qbz rfl hy] at A2
 rw [qbz hx hy] at A3
 generalize (qaM s.left 1 (s.e - 1)).1 = X at *
 generalize (qaM s.low 1 (s.e - 1)).1 = Y at *
 obtain ⟨x0, x1, x2⟩ := X
 obtain ⟨y0, y1, y2⟩ := Y
 obtain ⟨⟨a0, a1, a2⟩, ⟨a3, a4, a5⟩, a6⟩ := s
 simp only at RT A0 A1 A2 A3 hs3 hs4 he ⊢
 have heb : (a6 == -4096) = false := by simpa using he
 have hew : IntKind.i64.wrap (a6 - 1) = a6 - 1 := IntWalk.i64_in _ (by omega)
 clear hs hs1 hs2 hT hx hy
 go_enter func115, ntmps115
 go_upto_region 1 with fail
 obtain ⟨b, w1, hw, hb, B0, B1, K1, HB⟩ := qa7 w (LC3 a0 a1 a2 a3 a4 a5 a6) 26 ZL2 141
 rw [← hw, ← hb]; clear hw hb
 obtain ⟨c0, c1, c2, c3, c4, c5, c6⟩ := B0.out.c7
 go_upto_region 4 with (go_at_call 54; (with_reducible refine (RT.out _).mono ?_); rintro e w3 ⟨rfl, hk3⟩; obtain ⟨c0, c1, c2, c3, c4, c5, c6⟩ := (B0.out.kept hk3).c7)
 clear c0 c1 c2 c3 c4 c5 c6 RT
 have K4 := qh (Kept.new hk3 (.cells ZL2.toArray 141))
 have L4 := qh (Bx.new w3 ZL2 141 w3.heap.size rfl)
 obtain ⟨g, hg⟩ : ∃ g, g = w3.heap.size := ⟨_, rfl⟩
 rw [← hg] at L4 ⊢
 have HG := qh (show w1.heap.size ≤ g by have := hk3.size; omega)
 clear hg hk3
 generalize (w3.alloc (.cells ZL2.toArray 141)) = w4 at *
 go_wp2_with fail
 go_loopg [5, 6, 7, 17] 4 (fun gh v5 v6 v7 v17 wr => ∃ i : Nat, i + gh = 4 ∧ v17 = .int .i64 i ∧ Kept w1 wr ∧ ((i = 0 ∧ Bx wr g ZL2) ∨ (i = 1 ∧ Bx wr g (LC5 a0 a1 a2 a3 a4 a5 (a6 - 1) false ⟨#[]⟩ 0 false ⟨#[]⟩ 0 0 false ⟨#[]⟩ 0 false ⟨#[]⟩ 0 0 false ⟨#[]⟩ 0 false ⟨#[]⟩ 0 0)) ∨ (i = 2 ∧ Bx wr g (LC5 a0 a1 a2 a3 a4 a5 (a6 - 1) x0 x1 x2 a3 a4 a5 (a6 - 1) false ⟨#[]⟩ 0 false ⟨#[]⟩ 0 0 false ⟨#[]⟩ 0 false ⟨#[]⟩ 0 0)) ∨ (i = 3 ∧ Bx wr g (LC5 a0 a1 a2 a3 a4 a5 (a6 - 1) x0 x1 x2 a3 a4 a5 (a6 - 1) a0 a1 a2 y0 y1 y2 (a6 - 1) false ⟨#[]⟩ 0 false ⟨#[]⟩ 0 0)) ∨ (i = 4 ∧ Bx wr g (LC5 a0 a1 a2 a3 a4 a5 (a6 - 1) x0 x1 x2 a3 a4 a5 (a6 - 1) a0 a1 a2 y0 y1 y2 (a6 - 1) x0 x1 x2 y0 y1 y2 (a6 - 1)))))
 case atStart => exact ⟨0, by omega, rfl, K4.out, .inl ⟨rfl, L4.out⟩⟩
 case round =>
  obtain ⟨i, hig, rfl, hk, hb⟩ := hrel
  have HK := qh hk
  have hgw : g < wr.heap.size := by rcases hb with ⟨-, hb⟩ | ⟨-, hb⟩ | ⟨-, hb⟩ | ⟨-, hb⟩ | ⟨-, hb⟩ <;> exact hb.lt
  clear hk
  rcases hb with ⟨rfl, hb⟩ | ⟨rfl, hb⟩ | ⟨rfl, hb⟩ | ⟨rfl, hb⟩ | ⟨rfl, hb⟩
  ·obtain rfl : gk = 4 := by omega
   have BL := qh hb
   clear hb
   obtain ⟨c0, c1, c2, c3, c4, c5, c6⟩ := (B0.out.kept HK.out).c7
   go_wp2_with (go_at_call 55; (with_reducible refine (A0.out _ (K1.out.trans' HK.out)).mono ?_); rintro e w5 ⟨rfl, hk5⟩; have B5 := qh (BL.out.kept hk5); have d0 := B5.out.c 0 rfl; have d1 := B5.out.c 1 rfl; have d2 := B5.out.c 2 rfl; have d3 := B5.out.c 3 rfl; have d4 := B5.out.c 4 rfl; have d5 := B5.out.c 5 rfl; have d6 := B5.out.c 6 rfl; have f0 := B5.out.f 0; have f1 := B5.out.f 1; have f2 := B5.out.f 2; have f3 := B5.out.f 3; have f4 := B5.out.f 4; have f5 := B5.out.f 5; have f6 := B5.out.f 6; have g5 := B5.out.lt; have K5 := qh (HK.out.trans' hk5); have B06 := ((B0.out.kept HK.out).kept hk5).c 6 rfl; have bb5 := ((B0.out.kept HK.out).kept hk5).lt; clear hk5 c0 c1 c2 c3 c4 c5 c6)
   go_roundg 3
   case measure => omega
   case rel =>
    refine ⟨1, by omega, by go_num, ?_, ?_⟩
    ·exact (Kept.new (Kept.set (Kept.set (Kept.set (Kept.set (Kept.set (Kept.set (Kept.set K5.out HG.out 0 _) HG.out 1 _) HG.out 2 _) HG.out 3 _) HG.out 4 _) HG.out 5 _) HG.out 6 _) _)
    ·refine (.inr (.inl ⟨rfl, ?_⟩))
     exact (Bx.kept (Bx.set (Bx.set (Bx.set (Bx.set (Bx.set (Bx.set (Bx.set B5.out 0 _ (by simp)) 1 _ (by simp)) 2 _ (by simp)) 3 _ (by simp)) 4 _ (by simp)) 5 _ (by simp)) 6 _ (by simp)) (Kept.new (Below.refl _ _) _))
  ·obtain rfl : gk = 3 := by omega
   have BL := qh hb
   clear hb
   obtain ⟨c0, c1, c2, c3, c4, c5, c6⟩ := (B0.out.kept HK.out).c7
   go_wp2_with (go_at_call 55; (with_reducible refine (A1.out _ (K1.out.trans' HK.out)).mono ?_); rintro e w5 ⟨rfl, hk5⟩; have B5 := qh (BL.out.kept hk5); have d7 := B5.out.c 7 rfl; have d8 := B5.out.c 8 rfl; have d9 := B5.out.c 9 rfl; have d10 := B5.out.c 10 rfl; have d11 := B5.out.c 11 rfl; have d12 := B5.out.c 12 rfl; have d13 := B5.out.c 13 rfl; have f7 := B5.out.f 7; have f8 := B5.out.f 8; have f9 := B5.out.f 9; have f10 := B5.out.f 10; have f11 := B5.out.f 11; have f12 := B5.out.f 12; have f13 := B5.out.f 13; have g5 := B5.out.lt; have K5 := qh (HK.out.trans' hk5); have B06 := ((B0.out.kept HK.out).kept hk5).c 6 rfl; have bb5 := ((B0.out.kept HK.out).kept hk5).lt; clear hk5 c0 c1 c2 c3 c4 c5 c6)
   go_roundg 2
   case measure => omega
   case rel =>
    refine ⟨2, by omega, by go_num, ?_, ?_⟩
    ·exact (Kept.new (Kept.set (Kept.set (Kept.set (Kept.set (Kept.set (Kept.set (Kept.set K5.out HG.out 7 _) HG.out 8 _) HG.out 9 _) HG.out 10 _) HG.out 11 _) HG.out 12 _) HG.out 13 _) _)
    ·refine (.inr (.inr (.inl ⟨rfl, ?_⟩)))
     exact (Bx.kept (Bx.set (Bx.set (Bx.set (Bx.set (Bx.set (Bx.set (Bx.set B5.out 7 _ (by simp)) 8 _ (by simp)) 9 _ (by simp)) 10 _ (by simp)) 11 _ (by simp)) 12 _ (by simp)) 13 _ (by simp)) (Kept.new (Below.refl _ _) _))
  ·obtain rfl : gk = 2 := by omega
   have BL := qh hb
   clear hb
   obtain ⟨c0, c1, c2, c3, c4, c5, c6⟩ := (B0.out.kept HK.out).c7
   go_wp2_with (go_at_call 55; (with_reducible refine (A2.out _ (K1.out.trans' HK.out)).mono ?_); rintro e w5 ⟨rfl, hk5⟩; have B5 := qh (BL.out.kept hk5); have d14 := B5.out.c 14 rfl; have d15 := B5.out.c 15 rfl; have d16 := B5.out.c 16 rfl; have d17 := B5.out.c 17 rfl; have d18 := B5.out.c 18 rfl; have d19 := B5.out.c 19 rfl; have d20 := B5.out.c 20 rfl; have f14 := B5.out.f 14; have f15 := B5.out.f 15; have f16 := B5.out.f 16; have f17 := B5.out.f 17; have f18 := B5.out.f 18; have f19 := B5.out.f 19; have f20 := B5.out.f 20; have g5 := B5.out.lt; have K5 := qh (HK.out.trans' hk5); have B06 := ((B0.out.kept HK.out).kept hk5).c 6 rfl; have bb5 := ((B0.out.kept HK.out).kept hk5).lt; clear hk5 c0 c1 c2 c3 c4 c5 c6)
   go_roundg 1
   case measure => omega
   case rel =>
    refine ⟨3, by omega, by go_num, ?_, ?_⟩
    ·exact (Kept.new (Kept.set (Kept.set (Kept.set (Kept.set (Kept.set (Kept.set (Kept.set K5.out HG.out 14 _) HG.out 15 _) HG.out 16 _) HG.out 17 _) HG.out 18 _) HG.out 19 _) HG.out 20 _) _)
    ·refine (.inr (.inr (.inr (.inl ⟨rfl, ?_⟩))))
     exact (Bx.kept (Bx.set (Bx.set (Bx.set (Bx.set (Bx.set (Bx.set (Bx.set B5.out 14 _ (by simp)) 15 _ (by simp)) 16 _ (by simp)) 17 _ (by simp)) 18 _ (by simp)) 19 _ (by simp)) 20 _ (by simp)) (Kept.new (Below.refl _ _) _))
  ·obtain rfl : gk = 1 := by omega
   have BL := qh hb
   clear hb
   obtain ⟨c0, c1, c2, c3, c4, c5, c6⟩ := (B0.out.kept HK.out).c7
   go_wp2_with (go_at_call 55; (with_reducible refine (A3.out _ (K1.out.trans' HK.out)).mono ?_); rintro e w5 ⟨rfl, hk5⟩; have B5 := qh (BL.out.kept hk5); have d21 := B5.out.c 21 rfl; have d22 := B5.out.c 22 rfl; have d23 := B5.out.c 23 rfl; have d24 := B5.out.c 24 rfl; have d25 := B5.out.c 25 rfl; have d26 := B5.out.c 26 rfl; have d27 := B5.out.c 27 rfl; have f21 := B5.out.f 21; have f22 := B5.out.f 22; have f23 := B5.out.f 23; have f24 := B5.out.f 24; have f25 := B5.out.f 25; have f26 := B5.out.f 26; have f27 := B5.out.f 27; have g5 := B5.out.lt; have K5 := qh (HK.out.trans' hk5); have B06 := ((B0.out.kept HK.out).kept hk5).c 6 rfl; have bb5 := ((B0.out.kept HK.out).kept hk5).lt; clear hk5 c0 c1 c2 c3 c4 c5 c6)
   go_roundg 0
   case measure => omega
   case rel =>
    refine ⟨4, by omega, by go_num, ?_, ?_⟩
    ·exact (Kept.new (Kept.set (Kept.set (Kept.set (Kept.set (Kept.set (Kept.set (Kept.set K5.out HG.out 21 _) HG.out 22 _) HG.out 23 _) HG.out 24 _) HG.out 25 _) HG.out 26 _) HG.out 27 _) _)
    ·refine (.inr (.inr (.inr (.inr (⟨rfl, ?_⟩)))))
     exact (Bx.kept (Bx.set (Bx.set (Bx.set (Bx.set (Bx.set (Bx.set (Bx.set B5.out 21 _ (by simp)) 22 _ (by simp)) 23 _ (by simp)) 24 _ (by simp)) 25 _ (by simp)) 26 _ (by simp)) 27 _ (by simp)) (Kept.new (Below.refl _ _) _))
  ·obtain rfl : gk = 0 := by omega
   have BL := qh hb
   clear hb
   go_upto_region 12 with fail
   refine wp_region_list (wpList_plain rfl fun K hK => qai (b := g) (n := 28) _ rfl rfl BL.out rfl underlying141 rfl (by kernel_rfl) (hK _ _ ?_))
   clear hK K
   refine wpList_plain rfl fun K hK => qaa (b := b + 1) (n := 28) _ _ rfl rfl rfl (B1.out.kept HK.out) rfl rfl (by kernel_rfl) rfl (hK _ _ ?_)
   clear hK K
   have B9 := qh ((B1.out.kept HK.out).row (LC5 a0 a1 a2 a3 a4 a5 (a6 - 1) x0 x1 x2 a3 a4 a5 (a6 - 1) a0 a1 a2 y0 y1 y2 (a6 - 1) x0 x1 x2 y0 y1 y2 (a6 - 1)))
   have K9 := qh (Kept.row (K1.out.trans' HK.out) (show w.heap.size ≤ b + 1 by have := HB.out; omega) (LC5 a0 a1 a2 a3 a4 a5 (a6 - 1) x0 x1 x2 a3 a4 a5 (a6 - 1) a0 a1 a2 y0 y1 y2 (a6 - 1) x0 x1 x2 y0 y1 y2 (a6 - 1)))
   generalize World.setRow _ _ _ = w9 at *
   go_wp2_with fail
   refine qbZ results115 underlying141 rfl (by kernel_rfl) rfl rfl B9.out rfl ⟨_, rfl, rfl, K9.out⟩
theorem qhY (s : SqD) (w : World) (hs : sqB s = true) (hT : T32 w) :
  Calls prog 115 #[.agg #[.bool s.left.neg, .string s.left.n, .int .i64 s.left.e, .bool s.low.neg, .string s.low.n, .int .i64 s.low.e, .int .i64 s.e]] w fun en w' => ∃ v, en = .returned v ∧ qex (qbp s) v ∧ Kept w w' := by
 by_cases he : s.e = -4096
 ·rw [show qbp s = none by unfold qbp; rw [if_pos he]]
  exact qm s w hs he
 ·by_cases hx : (qaM s.left 1 (s.e - 1)).2 = 0
  ·by_cases hy : (qaM s.low 1 (s.e - 1)).2 = 0
   ·have hm : qbu s = (⟨(qaM s.left 1 (s.e - 1)).1, (qaM s.low 1 (s.e - 1)).1⟩, 0) := qbz hx hy
    have h : qbp s = some [⟨s.left, s.low, s.e - 1⟩, ⟨(qaM s.left 1 (s.e - 1)).1, s.low, s.e - 1⟩, ⟨s.left, (qaM s.low 1 (s.e - 1)).1, s.e - 1⟩, ⟨(qaM s.left 1 (s.e - 1)).1, (qaM s.low 1 (s.e - 1)).1, s.e - 1⟩] := by
     unfold qbp; rw [if_neg he, hm, if_pos rfl]
    rw [h]
    exact qnI s w hs he hT hx hy
   ·have hm : qbu s = (zG, 4) := qdp (.inr hy)
    rw [show qbp s = none by unfold qbp; rw [if_neg he, hm, if_neg (by decide)]]
    exact qol s w hs he hT hx hy
  ·have hm : qbu s = (zG, 4) := qdp (.inl hx)
   rw [show qbp s = none by unfold qbp; rw [if_neg he, hm, if_neg (by decide)]]
   exact qoh s w hs he hT hx
end
set_option maxRecDepth 100000 in
set_option maxHeartbeats 6400000 in
theorem qjb {w : World} {base p : Nat} {v : Value} {u : RuD} {S : StD} {k : Nat} {n : NdD} (hM : TrM w base p v u S) (hS : GoodS S) (hk : S.L[k]? = some n) (hT : T32 w) (h0 : n.kids = none ∧ n.told = 0 ∧ n.depth < 40 ∧ S.n + 3 ≤ 65536) (hP : qbp n.sq = none) :
  Calls prog 72 #[.pointer (some ⟨p, 0, none⟩), .int .i64 (k : Int)] w fun en w' => ∃ x, en = .returned x ∧ qd1 none x ∧ Kept w w' := by
 obtain ⟨g, off, c, rfl, hbg, hgl, hgp, hcell, -⟩ := hM.form hS.pos
 have hlt : (k : Int) < ((S.L.length : Nat) : Int) := by have := (List.getElem?_eq_some_iff.1 hk).1; omega
 have h0k : (0 : Int) ≤ (k : Int) := by omega
 have hnd := hcell k n
 have bp := hM.box
 generalize S.L.length = N at *
 have PT := qh (fun W => qco n W)
 have hn := hS.nd k n hk
 have hsq := hn.sq
 have hpb := qbw hS hk
 obtain ⟨e1, e2, e3, e4⟩ := h0
 rw [e1] at hpb
 have hpb2 : qbO n = false := hpb
 rw [hpb2] at PT
 have PA : Hid (∀ W, Kept w W → Calls prog 115 #[.agg #[.bool n.sq.left.neg, .string n.sq.left.n, .int .i64 n.sq.left.e, .bool n.sq.low.neg, .string n.sq.low.n, .int .i64 n.sq.low.e, .int .i64 n.sq.e]] W fun en w' => ∃ v, en = .returned v ∧ qex (qbp n.sq) v ∧ Kept W w') := fun W h => qhY n.sq W hsq (hT.kept h)
 obtain ⟨m, hm⟩ : ∃ m : Nat, m = S.n + 3 := ⟨_, rfl⟩
 have ew : IntKind.i64.wrap ((S.n : Int) + 3) = (m : Int) := by rw [IntWalk.i64_in _ (by omega)]; omega
 have h4 : (n.depth : Int) < 40 := by omega
 have h5 : (((n.told : Int)) != 0) = false := by simpa using e2
 have h6 : (m : Int) ≤ 65536 := by omega
 clear hm
 generalize S.n = sn at *
 have HT := qh hT
 rw [hP] at PA
 clear hP
 clear hpb hpb2 e1 e2 e3 e4 hn hsq hT
 obtain ⟨⟨⟨a0, a1, a2⟩, ⟨a3, a4, a5⟩, a6⟩, t, d, ks⟩ := n
 have HC : Hid (∀ i y, (ndV ⟨⟨⟨a0, a1, a2⟩, ⟨a3, a4, a5⟩, a6⟩, t, d, ks⟩)[i]? = some y → w.cell? ⟨g, off + k * 13 + i, none⟩ = some y) := fun i y hy => by rw [Nat.add_assoc]; exact hnd i y hk hy
 unfold ndV at HC PT
 generalize NdD.kid ⟨⟨⟨a0, a1, a2⟩, ⟨a3, a4, a5⟩, a6⟩, t, d, ks⟩ = KK at *
 obtain ⟨k0, k1, k2, k3⟩ := KK
 simp only at PT HC ⊢
 have BP := qh bp
 have HPL := qh (show p < w.heap.size from bp.lt)
 clear hM hcell hnd hk hbg bp
 go_enter func72, ntmps72
 go_upto_region 1 with fail
 obtain ⟨b, w1, hw, hb, B0, B1, K1, HB⟩ := qa7 w ZL2 141 ZL3 142
 rw [← hw, ← hb]; clear hw hb
 have c1 := (BP.out.kept K1.out).c 1 rfl
 refine wp_region_list ?_
 refine wpList_plain rfl fun K hK => ?_
 go_step
 refine hK _ _ ?_
 clear hK K
 refine wpList_plain rfl fun K hK => ?_
 go_step
 refine hK _ _ ?_
 clear hK K
 refine wpList_plain rfl fun K hK => ?_
 go_step
 refine hK _ _ ?_
 clear hK K
 refine wpList_plain rfl fun K hK => ?_
 go_step
 refine hK _ _ ?_
 clear hK K
 refine wpList_plain rfl fun K hK => ?_
 go_step
 refine hK _ _ ?_
 clear hK K
 refine wpList_plain rfl fun K hK => ?_
 go_step
 refine hK _ _ ?_
 clear hK K
 have HW := qh (fun i y hy => (K1.out.cells g (off + k * 13 + i) hgl).trans (HC.out i y hy))
 refine wpList_plain rfl fun K hK => qav (g := g) (off := off + k * 13) (n := 13) _ rfl rfl HW.out rfl underlying91 rfl (by kernel_rfl) (hK _ _ ?_)
 clear hK K HW HC
 refine wpList_plain rfl fun K hK => ?_
 go_step
 refine hK _ _ ?_
 clear hK K
 have K4 := qh (Kept.new (Below.refl _ w1) (.cells #[.bool false, .string ⟨#[]⟩, .int .i64 0, .bool false, .string ⟨#[]⟩, .int .i64 0, .int .i64 0, .int .u8 0, .int .i64 0, .int .i64 0, .int .i64 0, .int .i64 0, .int .i64 0] 91))
 have B2 := qh (Bx.new w1 [.bool false, .string ⟨#[]⟩, .int .i64 0, .bool false, .string ⟨#[]⟩, .int .i64 0, .int .i64 0, .int .u8 0, .int .i64 0, .int .i64 0, .int .i64 0, .int .i64 0, .int .i64 0] 91 w1.heap.size rfl)
 obtain ⟨h, hh⟩ : ∃ h, h = w1.heap.size := ⟨_, rfl⟩
 have HG := qh (show w1.heap.size ≤ h by omega)
 rw [← hh] at B2 ⊢
 clear hh
 generalize World.alloc w1 _ = w4 at *
 refine wpList_plain rfl fun K hK => qaa (b := h) (n := 13) _ _ rfl rfl rfl B2.out rfl rfl (by kernel_rfl) rfl (hK _ _ ?_)
 clear hK K
 replace B2 := qh (B2.out.row [.bool a0, .string a1, .int .i64 a2, .bool a3, .string a4, .int .i64 a5, .int .i64 a6, .int .u8 t, .int .i64 d, .int .i64 k0, .int .i64 k1, .int .i64 k2, .int .i64 k3])
 replace K4 := qh (Kept.row K4.out HG.out [.bool a0, .string a1, .int .i64 a2, .bool a3, .string a4, .int .i64 a5, .int .i64 a6, .int .u8 t, .int .i64 d, .int .i64 k0, .int .i64 k1, .int .i64 k2, .int .i64 k3])
 generalize World.setRow w4 _ _ = w5 at *
 go_upto_region 3 with fail
 have K6 := qh (Kept.new K4.out (.cells ZL3.toArray 142))
 have B3 := qh (Bx.new w5 ZL3 142 w5.heap.size rfl)
 replace B2 := qh (B2.out.kept (Kept.new (Below.refl _ _) (.cells ZL3.toArray 142)))
 have HQ := qh (show w1.heap.size ≤ w5.heap.size from K4.out.size)
 obtain ⟨q, hq⟩ : ∃ q, q = w5.heap.size := ⟨_, rfl⟩
 rw [← hq] at B3 HQ ⊢
 clear hq K4
 generalize World.alloc w5 _ = w6 at *
 clear c1
 simp only at PA h4 h5
 refine wp_region_list ?_
 refine wpList_plain rfl fun K hK => qai (b := h) (n := 13) _ rfl rfl B2.out rfl underlying91 rfl (by kernel_rfl) (hK _ _ ?_)
 clear hK K
 go_upto_region 5 with (go_at_call 36; (with_reducible refine (PT.out _).mono ?_); rintro e w7 ⟨rfl, hk7⟩; have d7 := (B2.out.kept hk7).c 7 rfl; have d8 := (B2.out.kept hk7).c 8 rfl; have p2 := (((BP.out.kept K1.out).kept K6.out).kept hk7).c 2 rfl)
 have K8 := qh (K6.out.trans' hk7)
 replace B2 := qh (B2.out.kept hk7)
 replace B3 := qh (B3.out.kept hk7)
 clear d7 d8 p2 hk7 K6
 refine wp_region_list ?_
 refine wpList_plain rfl fun K hK => ?_
 go_step
 refine hK _ _ ?_
 clear hK K
 have HA := qh (B2.out.at_ 0 7)
 refine wpList_plain rfl fun K hK => qav (vs := (LC3 a0 a1 a2 a3 a4 a5 a6)) (g := h) (off := 0) (n := 7) _ rfl rfl HA.out rfl underlying26 rfl (by kernel_rfl) (hK _ _ ?_)
 clear hK K HA
 refine wpList_plain rfl fun K hK => ?_
 go_step
 (with_reducible refine (PA.out _ (K1.out.trans' K8.out)).mono ?_)
 rintro e w8 ⟨x, rfl, hx, hk8⟩
 obtain ⟨f, hf, rfl⟩ := hx
 refine hK _ _ ?_
 clear hK K
 refine wpList_plain rfl fun K hK => ?_
 go_step
 refine hK _ _ ?_
 clear hK K
 refine wpList_plain rfl fun K hK => ?_
 go_step
 refine hK _ _ ?_
 clear hK K
 refine wpList_plain rfl fun K hK => ?_
 go_step
 refine hK _ _ ?_
 clear hK K
 refine wpList_plain rfl fun K hK => ?_
 go_step
 refine hK _ _ ?_
 clear hK K
 have K9 := qh (Kept.new (K8.out.trans' hk8) (.cells ZL2.toArray 141))
 have HG2 := qh (show w1.heap.size ≤ w8.heap.size from (K8.out.trans' hk8).size)
 replace B2 := qh ((B2.out.kept hk8).kept (Kept.new (Below.refl _ _) (.cells ZL2.toArray 141)))
 replace B3 := qh (B3.out.kept hk8)
 have HQ8 := qh (show q < w8.heap.size from B3.out.lt)
 replace B3 := qh (B3.out.kept (Kept.new (Below.refl _ _) (.cells ZL2.toArray 141)))
 have B4 := qh (Bx.new w8 ZL2 141 w8.heap.size rfl)
 obtain ⟨j, hj⟩ : ∃ j, j = w8.heap.size := ⟨_, rfl⟩
 rw [← hj] at B4 HG2 HQ8 ⊢
 clear hj hk8 K8
 generalize World.alloc w8 _ = w9 at *
 refine wpList_plain rfl fun K hK => qaa (vs := ZL2) (b := j) (n := 28) _ _ rfl rfl rfl B4.out rfl rfl (by kernel_rfl) rfl (hK _ _ ?_)
 clear hK K
 replace B4 := qh (B4.out.row ZL2)
 replace B3 := qh (B3.out.off (g := j) (by have := HQ8.out; omega) ZL2)
 replace K9 := qh (Kept.row K9.out HG2.out ZL2)
 generalize World.setRow w9 _ _ = w10 at *
 have hf2 : (f != 0) = true := by simpa using hf
 go_upto_region 7 with fail
 have KX := qh K9.out
 have QB := qh B3.out
 have XB := qh B4.out
 have KD := qh (show Kept w1 (w10).drew from KX.out.trans' (Below.refl _ w10).drew)
 have B0d := qh (B0.out.kept KD.out)
 have B1d := qh (B1.out.kept KD.out)
 have HNE := qh (show q ≠ b ∧ q ≠ b + 1 from by have h1 := (B1.out).lt; have h2 := HQ.out; omega)
 have HNX := qh (show j ≠ b ∧ j ≠ b + 1 from by have h1 := (B1.out).lt; have h2 := HG2.out; omega)
 have hS0 : Bx (w10).drew q ZL3 ∧ Bx (w10).drew j ZL2 := ⟨QB.out.kept (Below.refl _ w10).drew, XB.out.kept (Below.refl _ w10).drew⟩
 refine qab (fun W => Bx W q ZL3 ∧ Bx W j ZL2) [4] (by kernel_rfl) ?_ (fun hHeld => ?_)
 ·assumption
 refine yS (v := .agg ZL2.toArray) 0 50 ?_ ?_
 ·intro w hSw; (try dsimp only at hSw); exact qaw (vs := ZL2) (n := 28) _ rfl rfl hSw.2 rfl underlying141 rfl (by kernel_rfl)
 try simp only [Act.put, tdy]
 refine yS (v := .agg ZL3.toArray) 1 51 ?_ ?_
 ·intro w hSw; (try dsimp only at hSw); exact qaw (vs := ZL3) (n := 8) _ rfl rfl hSw.1 rfl underlying142 rfl (by kernel_rfl)
 try simp only [Act.put, tdy]
 refine oS 2 fun K hK => ?_
 (refine qbC rfl (qaa (vs := ZL2) (b := b) (n := 28) _ _ rfl rfl rfl B0d.out rfl rfl (by kernel_rfl) rfl ?_); have hS1 : Bx (World.setRow (w10).drew (b) ZL2.toArray) q ZL3 ∧ Bx (World.setRow (w10).drew (b) ZL2.toArray) j ZL2 := ⟨hS0.1.off HNE.out.1 ZL2, hS0.2.off HNX.out.1 ZL2⟩)
 refine hK.out _ _ ?_ (fun hHeld => ?_)
 ·assumption
 clear hK K
 try simp only [Act.put, List.setIfInBounds_toArray]
 refine oS 3 fun K hK => ?_
 (refine qbC rfl (qaa (vs := ZL3) (b := b + 1) (n := 8) _ _ rfl rfl rfl (B1d.out.off (g := b) (by omega) ZL2) rfl rfl (by kernel_rfl) rfl ?_); have hS2 : Bx (World.setRow (World.setRow (w10).drew (b) ZL2.toArray) (b + 1) ZL3.toArray) q ZL3 ∧ Bx (World.setRow (World.setRow (w10).drew (b) ZL2.toArray) (b + 1) ZL3.toArray) j ZL2 := ⟨hS1.1.off HNE.out.2 ZL3, hS1.2.off HNX.out.2 ZL3⟩)
 refine hK.out _ _ ?_ (fun hHeld => ?_)
 ·assumption
 clear hK K
 try simp only [Act.put, List.setIfInBounds_toArray]
 refine eS 4 fun K hK => ?_
 go_simp
 refine hK.out _ _ ?_
 clear hK K
 try simp only [Act.put, tdy]
 refine dS ?_ _
 go_wp2_with fail
 refine qd4 results72 underlying141 rfl (by kernel_rfl) underlying142 rfl (by kernel_rfl) rfl rfl rfl ((B0d.out.row ZL2).off (g := b + 1) (by omega) ZL3) rfl ((B1d.out.off (g := b) (by omega) ZL2).row ZL3) rfl ⟨_, rfl, ⟨ZL2, ZL3, rfl, rfl, rfl, rfl, rfl⟩, Kept.rows (K1.out.trans' KD.out) (show w.heap.size ≤ b from HB.out) (show w.heap.size ≤ b + 1 by have := HB.out; omega) _ _⟩
section
attribute [local go_sem] qah qae
def cvl (qs : List SqD) (k : Nat) : List Value := (qs.take k).flatMap qk1 ++ (List.replicate (4 - k) [.complex .f64 0 0, .float .f64 0]).flatten
theorem qmI (q0 q1 q2 q3 : SqD) {k : Nat} (hk : k < 4) {G : SqD} (hG : [q0, q1, q2, q3][k]? = some G) : cvl [q0, q1, q2, q3] (k + 1) = ((cvl [q0, q1, q2, q3] k).set (k * 2) (.complex .f64 (qaj G).1.re (qaj G).1.im)).set (k * 2 + 1) (.float .f64 (qaj G).1.r) := by
 rcases (show k = 0 ∨ k = 1 ∨ k = 2 ∨ k = 3 by omega) with rfl | rfl | rfl | rfl <;> (cases hG; rfl)
theorem qn9 (q0 q1 q2 q3 : SqD) {k : Nat} (hk : k ≤ 4) : (cvl [q0, q1, q2, q3] k).length = 8 ∧ (cvl [q0, q1, q2, q3] k).all Value.oneCell' = true := by
 rcases (show k = 0 ∨ k = 1 ∨ k = 2 ∨ k = 3 ∨ k = 4 by omega) with rfl | rfl | rfl | rfl | rfl <;> exact ⟨rfl, rfl⟩
theorem qoK (q0 q1 q2 q3 : SqD) {k : Nat} (hk : k < 4) : (cvl [q0, q1, q2, q3] k)[k * 2]? = some (.complex .f64 0 0) ∧ (cvl [q0, q1, q2, q3] k)[k * 2 + 1]? = some (.float .f64 0) := by
 rcases (show k = 0 ∨ k = 1 ∨ k = 2 ∨ k = 3 by omega) with rfl | rfl | rfl | rfl <;> exact ⟨rfl, rfl⟩
set_option maxRecDepth 100000 in
set_option maxHeartbeats 6400000 in
theorem qih {w : World} {base p : Nat} {v : Value} {u : RuD} {S : StD} {k : Nat} {n : NdD} (hM : TrM w base p v u S) (hS : GoodS S) (hk : S.L[k]? = some n) {q0 q1 q2 q3 : SqD} (hT : T32 w) (h0 : n.kids = none ∧ n.told = 0 ∧ n.depth < 40 ∧ S.n + 3 ≤ 65536) (hP : qbp n.sq = some [q0, q1, q2, q3]) :
  Calls prog 72 #[.pointer (some ⟨p, 0, none⟩), .int .i64 (k : Int)] w fun en w' => ∃ x, en = .returned x ∧ qd1 (qal S k) x ∧ Kept w w' := by
 obtain ⟨g, off, c, rfl, hbg, hgl, hgp, hcell, -⟩ := hM.form hS.pos
 have hlt : (k : Int) < ((S.L.length : Nat) : Int) := by have := (List.getElem?_eq_some_iff.1 hk).1; omega
 have h0k : (0 : Int) ≤ (k : Int) := by omega
 have hnd := hcell k n
 have bp := hM.box
 generalize S.L.length = N at *
 have PT := qh (fun W => qco n W)
 have hV : qal S k = (qcD n.sq).map fun q => (n, q) := by
  unfold qal
  rw [hk]
  simp only
  rw [if_pos h0]
 have HV1 : Hid (∀ (i : Nat) (G : SqD), [q0, q1, q2, q3][i]? = some G → (qaj G).2 ≠ 0 → qal S k = none) := fun i G hi hc => by
  rw [hV]
  unfold qcD
  rw [hP]
  simp only
  rw [if_neg]
  ·rfl
  ·rintro ⟨c0, c1, c2, c3⟩
   match i, hi with
   | 0, hi => cases hi; exact hc c0
   | 1, hi => cases hi; exact hc c1
   | 2, hi => cases hi; exact hc c2
   | 3, hi => cases hi; exact hc c3
   | i + 4, hi => simp at hi
 have HV2 : Hid ((∀ (i : Nat) (G : SqD), i < 4 → [q0, q1, q2, q3][i]? = some G → (qaj G).2 = 0) → qal S k = some (n, q0, q1, q2, q3)) := fun hc => by
  rw [hV]
  unfold qcD
  rw [hP]
  simp only
  rw [if_pos ⟨hc 0 _ (by omega) rfl, hc 1 _ (by omega) rfl, hc 2 _ (by omega) rfl, hc 3 _ (by omega) rfl⟩]
  rfl
 have hok := (qd2 (hS.nd k n hk).sq hP).2
 obtain ⟨QL, hQL⟩ : ∃ QL, QL = sq4 (q0, q1, q2, q3) := ⟨_, rfl⟩
 obtain ⟨qs, hqs⟩ : ∃ qs, qs = [q0, q1, q2, q3] := ⟨_, rfl⟩
 have HLN := qh (show QL.length = 28 by rw [hQL]; rfl)
 have HOC := qh (show QL.all Value.oneCell' = true by rw [hQL]; rfl)
 have CK : Hid (∀ m : Nat, m < 4 → ∃ G : SqD, qs[m]? = some G ∧ sqB G = true ∧ (∀ W, (Instr.index 141 (.agg QL.toArray) (.int .i64 (m : Int))).run prog W = .ok (.agg #[.bool G.left.neg, .string G.left.n, .int .i64 G.left.e, .bool G.low.neg, .string G.low.n, .int .i64 G.low.e, .int .i64 G.e]) W) ∧ cvl qs (m + 1) = ((cvl qs m).set (m * 2) (.complex .f64 (qaj G).1.re (qaj G).1.im)).set (m * 2 + 1) (.float .f64 (qaj G).1.r) ∧ (cvl qs m)[m * 2]? = some (.complex .f64 0 0) ∧ (cvl qs m)[m * 2 + 1]? = some (.float .f64 0)) := by
  intro m hm
  rw [hQL, hqs]
  have h1 := @qmI q0 q1 q2 q3 m hm
  have h2 := qoK q0 q1 q2 q3 hm
  rcases (show m = 0 ∨ m = 1 ∨ m = 2 ∨ m = 3 by omega) with rfl | rfl | rfl | rfl
  ·exact ⟨q0, rfl, hok q0 (by simp), fun W => by kernel_rfl, h1 rfl, h2⟩
  ·exact ⟨q1, rfl, hok q1 (by simp), fun W => by kernel_rfl, h1 rfl, h2⟩
  ·exact ⟨q2, rfl, hok q2 (by simp), fun W => by kernel_rfl, h1 rfl, h2⟩
  ·exact ⟨q3, rfl, hok q3 (by simp), fun W => by kernel_rfl, h1 rfl, h2⟩
 have CL : Hid (∀ m : Nat, m ≤ 4 → (cvl qs m).length = 8 ∧ (cvl qs m).all Value.oneCell' = true) := fun m hm => by rw [hqs]; exact qn9 q0 q1 q2 q3 hm
 have C0 := qh (show cvl qs 0 = ZL3 by rw [hqs]; rfl)
 have RS : Hid (∀ x, x = .tuple #[.agg QL.toArray, .agg (cvl qs 4).toArray, .bool true] → qd1 (some (n, q0, q1, q2, q3)) x) := fun x hx => by rw [hx, hQL, hqs]; rfl
 have PR : ∀ v, qex (some [q0, q1, q2, q3]) v → v = .tuple #[.agg QL.toArray, .int .i64 0] := fun v hv => by rw [hQL]; exact hv
 rw [← hqs] at HV1 HV2 hP PR
 clear hV hok hQL
 generalize qal S k = V at *
 have hn := hS.nd k n hk
 have hsq := hn.sq
 have hpb := qbw hS hk
 obtain ⟨e1, e2, e3, e4⟩ := h0
 rw [e1] at hpb
 have hpb2 : qbO n = false := hpb
 rw [hpb2] at PT
 have PA : Hid (∀ W, Kept w W → Calls prog 115 #[.agg #[.bool n.sq.left.neg, .string n.sq.left.n, .int .i64 n.sq.left.e, .bool n.sq.low.neg, .string n.sq.low.n, .int .i64 n.sq.low.e, .int .i64 n.sq.e]] W fun en w' => ∃ v, en = .returned v ∧ qex (qbp n.sq) v ∧ Kept W w') := fun W h => qhY n.sq W hsq (hT.kept h)
 obtain ⟨m, hm⟩ : ∃ m : Nat, m = S.n + 3 := ⟨_, rfl⟩
 have ew : IntKind.i64.wrap ((S.n : Int) + 3) = (m : Int) := by rw [IntWalk.i64_in _ (by omega)]; omega
 have h4 : (n.depth : Int) < 40 := by omega
 have h5 : (((n.told : Int)) != 0) = false := by simpa using e2
 have h6 : (m : Int) ≤ 65536 := by omega
 clear hm
 generalize S.n = sn at *
 have HT := qh hT
 rw [hP] at PA
 replace PA : Hid (∀ W, Kept w W → Calls prog 115 #[.agg #[.bool n.sq.left.neg, .string n.sq.left.n, .int .i64 n.sq.left.e, .bool n.sq.low.neg, .string n.sq.low.n, .int .i64 n.sq.low.e, .int .i64 n.sq.e]] W fun en w' => en = .returned (.tuple #[.agg QL.toArray, .int .i64 0]) ∧ Kept W w') := fun W h => (PA W h).mono fun en w' ⟨v, he, hr, hk⟩ => ⟨by rw [he, PR v hr], hk⟩
 obtain ⟨RR, hRR⟩ : ∃ RR : Value → Prop, RR = qd1 (some (n, q0, q1, q2, q3)) := ⟨_, rfl⟩
 rw [← hRR] at RS
 have HRR : Hid ((∀ (i : Nat) (G : SqD), i < 4 → qs[i]? = some G → (qaj G).2 = 0) → ∀ x, RR x → qd1 V x) := fun h x hx => by rw [HV2 h, ← hRR]; exact hx
 have HNO : Hid (∀ (i : Nat) (G : SqD), qs[i]? = some G → (qaj G).2 ≠ 0 → ∀ x, qd1 none x → qd1 V x) := fun i G h h2 x hx => by rw [HV1 i G h h2]; exact hx
 have COV : Hid (∀ W G, Kept w W → sqB G = true → Calls prog 31 #[.agg #[.bool G.left.neg, .string G.left.n, .int .i64 G.left.e, .bool G.low.neg, .string G.low.n, .int .i64 G.low.e, .int .i64 G.e]] W fun en w' => en = .returned (qh7 (qaj G)) ∧ Kept W w') := fun W G h hG => qhI G W hG (hT.kept h)
 clear hP HV1 HV2 PR hRR hqs
 clear hpb hpb2 e1 e2 e3 e4 hn hsq hT
 obtain ⟨⟨⟨a0, a1, a2⟩, ⟨a3, a4, a5⟩, a6⟩, t, d, ks⟩ := n
 have HC : Hid (∀ i y, (ndV ⟨⟨⟨a0, a1, a2⟩, ⟨a3, a4, a5⟩, a6⟩, t, d, ks⟩)[i]? = some y → w.cell? ⟨g, off + k * 13 + i, none⟩ = some y) := fun i y hy => by rw [Nat.add_assoc]; exact hnd i y hk hy
 unfold ndV at HC PT
 generalize NdD.kid ⟨⟨⟨a0, a1, a2⟩, ⟨a3, a4, a5⟩, a6⟩, t, d, ks⟩ = KK at *
 obtain ⟨k0, k1, k2, k3⟩ := KK
 simp only at PT HC ⊢
 have BP := qh bp
 have HPL := qh (show p < w.heap.size from bp.lt)
 clear hM hcell hnd hk hbg bp
 go_enter func72, ntmps72
 go_upto_region 1 with fail
 obtain ⟨b, w1, hw, hb, B0, B1, K1, HB⟩ := qa7 w ZL2 141 ZL3 142
 rw [← hw, ← hb]; clear hw hb
 have c1 := (BP.out.kept K1.out).c 1 rfl
 refine wp_region_list ?_
 refine wpList_plain rfl fun K hK => ?_
 go_step
 refine hK _ _ ?_
 clear hK K
 refine wpList_plain rfl fun K hK => ?_
 go_step
 refine hK _ _ ?_
 clear hK K
 refine wpList_plain rfl fun K hK => ?_
 go_step
 refine hK _ _ ?_
 clear hK K
 refine wpList_plain rfl fun K hK => ?_
 go_step
 refine hK _ _ ?_
 clear hK K
 refine wpList_plain rfl fun K hK => ?_
 go_step
 refine hK _ _ ?_
 clear hK K
 refine wpList_plain rfl fun K hK => ?_
 go_step
 refine hK _ _ ?_
 clear hK K
 have HW := qh (fun i y hy => (K1.out.cells g (off + k * 13 + i) hgl).trans (HC.out i y hy))
 refine wpList_plain rfl fun K hK => qav (g := g) (off := off + k * 13) (n := 13) _ rfl rfl HW.out rfl underlying91 rfl (by kernel_rfl) (hK _ _ ?_)
 clear hK K HW HC
 refine wpList_plain rfl fun K hK => ?_
 go_step
 refine hK _ _ ?_
 clear hK K
 have K4 := qh (Kept.new (Below.refl _ w1) (.cells #[.bool false, .string ⟨#[]⟩, .int .i64 0, .bool false, .string ⟨#[]⟩, .int .i64 0, .int .i64 0, .int .u8 0, .int .i64 0, .int .i64 0, .int .i64 0, .int .i64 0, .int .i64 0] 91))
 have B2 := qh (Bx.new w1 [.bool false, .string ⟨#[]⟩, .int .i64 0, .bool false, .string ⟨#[]⟩, .int .i64 0, .int .i64 0, .int .u8 0, .int .i64 0, .int .i64 0, .int .i64 0, .int .i64 0, .int .i64 0] 91 w1.heap.size rfl)
 obtain ⟨h, hh⟩ : ∃ h, h = w1.heap.size := ⟨_, rfl⟩
 have HG := qh (show w1.heap.size ≤ h by omega)
 rw [← hh] at B2 ⊢
 clear hh
 generalize World.alloc w1 _ = w4 at *
 refine wpList_plain rfl fun K hK => qaa (b := h) (n := 13) _ _ rfl rfl rfl B2.out rfl rfl (by kernel_rfl) rfl (hK _ _ ?_)
 clear hK K
 replace B2 := qh (B2.out.row [.bool a0, .string a1, .int .i64 a2, .bool a3, .string a4, .int .i64 a5, .int .i64 a6, .int .u8 t, .int .i64 d, .int .i64 k0, .int .i64 k1, .int .i64 k2, .int .i64 k3])
 replace K4 := qh (Kept.row K4.out HG.out [.bool a0, .string a1, .int .i64 a2, .bool a3, .string a4, .int .i64 a5, .int .i64 a6, .int .u8 t, .int .i64 d, .int .i64 k0, .int .i64 k1, .int .i64 k2, .int .i64 k3])
 generalize World.setRow w4 _ _ = w5 at *
 go_upto_region 3 with fail
 have K6 := qh (Kept.new K4.out (.cells ZL3.toArray 142))
 have B3 := qh (Bx.new w5 ZL3 142 w5.heap.size rfl)
 replace B2 := qh (B2.out.kept (Kept.new (Below.refl _ _) (.cells ZL3.toArray 142)))
 have HQ := qh (show w1.heap.size ≤ w5.heap.size from K4.out.size)
 obtain ⟨q, hq⟩ : ∃ q, q = w5.heap.size := ⟨_, rfl⟩
 rw [← hq] at B3 HQ ⊢
 clear hq K4
 generalize World.alloc w5 _ = w6 at *
 clear c1
 simp only at PA h4 h5
 refine wp_region_list ?_
 refine wpList_plain rfl fun K hK => qai (b := h) (n := 13) _ rfl rfl B2.out rfl underlying91 rfl (by kernel_rfl) (hK _ _ ?_)
 clear hK K
 go_upto_region 5 with (go_at_call 36; (with_reducible refine (PT.out _).mono ?_); rintro e w7 ⟨rfl, hk7⟩; have d7 := (B2.out.kept hk7).c 7 rfl; have d8 := (B2.out.kept hk7).c 8 rfl; have p2 := (((BP.out.kept K1.out).kept K6.out).kept hk7).c 2 rfl)
 have K8 := qh (K6.out.trans' hk7)
 replace B2 := qh (B2.out.kept hk7)
 replace B3 := qh (B3.out.kept hk7)
 clear d7 d8 p2 hk7 K6
 refine wp_region_list ?_
 refine wpList_plain rfl fun K hK => ?_
 go_step
 refine hK _ _ ?_
 clear hK K
 have HA := qh (B2.out.at_ 0 7)
 refine wpList_plain rfl fun K hK => qav (vs := (LC3 a0 a1 a2 a3 a4 a5 a6)) (g := h) (off := 0) (n := 7) _ rfl rfl HA.out rfl underlying26 rfl (by kernel_rfl) (hK _ _ ?_)
 clear hK K HA
 refine wpList_plain rfl fun K hK => ?_
 go_step
 (with_reducible refine (PA.out _ (K1.out.trans' K8.out)).mono ?_)
 rintro e w8 ⟨rfl, hk8⟩
 refine hK _ _ ?_
 clear hK K
 refine wpList_plain rfl fun K hK => ?_
 go_step
 refine hK _ _ ?_
 clear hK K
 refine wpList_plain rfl fun K hK => ?_
 go_step
 refine hK _ _ ?_
 clear hK K
 refine wpList_plain rfl fun K hK => ?_
 go_step
 refine hK _ _ ?_
 clear hK K
 refine wpList_plain rfl fun K hK => ?_
 go_step
 refine hK _ _ ?_
 clear hK K
 have K9 := qh (Kept.new (K8.out.trans' hk8) (.cells ZL2.toArray 141))
 have HG2 := qh (show w1.heap.size ≤ w8.heap.size from (K8.out.trans' hk8).size)
 replace B2 := qh ((B2.out.kept hk8).kept (Kept.new (Below.refl _ _) (.cells ZL2.toArray 141)))
 replace B3 := qh (B3.out.kept hk8)
 have HQ8 := qh (show q < w8.heap.size from B3.out.lt)
 replace B3 := qh (B3.out.kept (Kept.new (Below.refl _ _) (.cells ZL2.toArray 141)))
 have B4 := qh (Bx.new w8 ZL2 141 w8.heap.size rfl)
 obtain ⟨j, hj⟩ : ∃ j, j = w8.heap.size := ⟨_, rfl⟩
 rw [← hj] at B4 HG2 HQ8 ⊢
 clear hj hk8 K8
 generalize World.alloc w8 _ = w9 at *
 refine wpList_plain rfl fun K hK => qaa (vs := QL) (b := j) (n := 28) _ _ rfl rfl rfl B4.out HLN.out rfl (by kernel_rfl) HOC.out (hK _ _ ?_)
 clear hK K
 replace B4 := qh (B4.out.row QL)
 replace B3 := qh (B3.out.off (g := j) (by have := HQ8.out; omega) QL)
 replace K9 := qh (Kept.row K9.out HG2.out QL)
 generalize World.setRow w9 _ _ = w10 at *
 clear PA
 have hcl := CL.out
 go_upto_region 8 with fail
 refine wp_region_list ?_
 refine wpList_plain rfl fun K hK => qai (vs := QL) (b := j) (n := 28) _ rfl rfl B4.out HLN.out underlying141 rfl (by kernel_rfl) (hK _ _ ?_)
 clear hK K
 refine wpList_plain rfl fun K hK => ?_
 go_step
 refine hK _ _ ?_
 clear hK K
 clear hcl
 go_wp2_with fail
 go_loopg [10, 11, 12, 53] 4 (fun gh v10 v11 v12 v53 wr => ∃ m : Nat, m + gh = 4 ∧ v53 = .int .i64 (m : Int) ∧ Bx wr q (cvl qs m) ∧ Bx wr j QL ∧ Kept w1 wr ∧ ∀ (i : Nat) (G : SqD), i < m → qs[i]? = some G → (qaj G).2 = 0)
 case atStart => exact ⟨0, by omega, rfl, by rw [C0.out]; exact B3.out, B4.out, K9.out, fun i G hi => by omega⟩
 case round =>
  clear B3 B4 K9 B2
  obtain ⟨m, hmg, rfl, b3, b4, hk9, hall⟩ := hrel
  have B3 := qh b3
  have B4 := qh b4
  have K9 := qh hk9
  have HALL := qh hall
  clear b3 b4 hk9 hall
  clear h6 ew
  cases gk with
  | zero =>
   obtain rfl : m = 4 := by omega
   go_upto_region 15 with fail
   have KX := qh K9.out
   have QB := qh B3.out
   have XB := qh B4.out
   have KD := qh (show Kept w1 (wr).drew from KX.out.trans' (Below.refl _ wr).drew)
   have B0d := qh (B0.out.kept KD.out)
   have B1d := qh (B1.out.kept KD.out)
   have HNE := qh (show q ≠ b ∧ q ≠ b + 1 from by have h1 := (B1.out).lt; have h2 := HQ.out; omega)
   have HNX := qh (show j ≠ b ∧ j ≠ b + 1 from by have h1 := (B1.out).lt; have h2 := HG2.out; omega)
   have hS0 : Bx (wr).drew q (cvl qs 4) ∧ Bx (wr).drew j QL := ⟨QB.out.kept (Below.refl _ wr).drew, XB.out.kept (Below.refl _ wr).drew⟩
   refine qab (fun W => Bx W q (cvl qs 4) ∧ Bx W j QL) [4] (by kernel_rfl) ?_ (fun hHeld => ?_)
   ·assumption
   refine yS (v := .agg QL.toArray) 0 69 ?_ ?_
   ·intro w hSw; (try dsimp only at hSw); exact qaw (vs := QL) (n := 28) _ rfl rfl hSw.2 HLN.out underlying141 rfl (by kernel_rfl)
   try simp only [Act.put, tdy]
   refine yS (v := .agg (cvl qs 4).toArray) 1 70 ?_ ?_
   ·intro w hSw; (try dsimp only at hSw); exact qaw (vs := (cvl qs 4)) (n := 8) _ rfl rfl hSw.1 (CL.out 4 (by omega)).1 underlying142 rfl (by kernel_rfl)
   try simp only [Act.put, tdy]
   refine oS 2 fun K hK => ?_
   (refine qbC rfl (qaa (vs := QL) (b := b) (n := 28) _ _ rfl rfl rfl B0d.out HLN.out rfl (by kernel_rfl) HOC.out ?_); have hS1 : Bx (World.setRow (wr).drew (b) QL.toArray) q (cvl qs 4) ∧ Bx (World.setRow (wr).drew (b) QL.toArray) j QL := ⟨hS0.1.off HNE.out.1 QL, hS0.2.off HNX.out.1 QL⟩)
   refine hK.out _ _ ?_ (fun hHeld => ?_)
   ·assumption
   clear hK K
   try simp only [Act.put, List.setIfInBounds_toArray]
   refine oS 3 fun K hK => ?_
   (refine qbC rfl (qaa (vs := (cvl qs 4)) (b := b + 1) (n := 8) _ _ rfl rfl rfl (B1d.out.off (g := b) (by omega) QL) (CL.out 4 (by omega)).1 rfl (by kernel_rfl) (CL.out 4 (by omega)).2 ?_); have hS2 : Bx (World.setRow (World.setRow (wr).drew (b) QL.toArray) (b + 1) (cvl qs 4).toArray) q (cvl qs 4) ∧ Bx (World.setRow (World.setRow (wr).drew (b) QL.toArray) (b + 1) (cvl qs 4).toArray) j QL := ⟨hS1.1.off HNE.out.2 (cvl qs 4), hS1.2.off HNX.out.2 (cvl qs 4)⟩)
   refine hK.out _ _ ?_ (fun hHeld => ?_)
   ·assumption
   clear hK K
   try simp only [Act.put, List.setIfInBounds_toArray]
   refine eS 4 fun K hK => ?_
   go_simp
   refine hK.out _ _ ?_
   clear hK K
   try simp only [Act.put, tdy]
   refine dS ?_ _
   go_wp2_with fail
   refine qd4 results72 underlying141 rfl (by kernel_rfl) underlying142 rfl (by kernel_rfl) rfl rfl rfl ((B0d.out.row QL).off (g := b + 1) (by omega) (cvl qs 4)) HLN.out ((B1d.out.off (g := b) (by omega) QL).row (cvl qs 4)) (CL.out 4 (by omega)).1 ⟨_, rfl, (HRR.out HALL.out _ (RS.out _ rfl)), Kept.rows (K1.out.trans' KD.out) (show w.heap.size ≤ b from HB.out) (show w.heap.size ≤ b + 1 by have := HB.out; omega) _ _⟩
  | succ gm =>
   obtain ⟨G, hG, hGok, hidx, hnext, hc0, hc1⟩ := CK.out m (by omega)
   have hl8 := (CL.out m (by omega)).1
   have hl9 := CL.out (m + 1) (by omega)
   have COVG : Hid (∀ W, Kept w W → Calls prog 31 #[.agg #[.bool G.left.neg, .string G.left.n, .int .i64 G.left.e, .bool G.low.neg, .string G.low.n, .int .i64 G.low.e, .int .i64 G.e]] W fun en w' => en = .returned (qh7 (qaj G)) ∧ Kept W w') := fun W h => COV.out W G h hGok
   have HNG : Hid ((qaj G).2 ≠ 0 → ∀ x, qd1 none x → qd1 V x) := fun h2 => HNO.out m G hG h2
   have HAG : Hid ((qaj G).2 = 0 → ∀ (i : Nat) (H : SqD), i < m + 1 → qs[i]? = some H → (qaj H).2 = 0) := fun h2 i H hi hH => by
    by_cases him : i = m
    ·subst him; rw [hG] at hH; cases hH; exact h2
    ·exact HALL.out i H (by omega) hH
   generalize qaj G = C at COVG HNG HAG hnext
   obtain ⟨⟨x1, x2, x3⟩, ce⟩ := C
   obtain ⟨⟨g0, g1, g2⟩, ⟨g3, g4, g5⟩, g6⟩ := G
   simp only at hidx COVG HNG HAG hnext
   have hm4 : (m : Int) < 4 := by omega
   have hm0 : (0 : Int) ≤ (m : Int) := by omega
   have HNX8 := qh hnext
   have HL8 := qh hl8
   have HL9 := qh hl9
   have HC0 := qh hc0
   have HC1 := qh hc1
   clear hnext hl8 hl9 hc0 hc1 hG hGok HALL
   go_upto_region 10 with fail
   refine wp_region_list ?_
   refine wpList_plain rfl fun K hK => ?_
   go_step
   refine hK _ _ ?_
   clear hK K
   refine wpList_plain rfl fun K hK => ?_
   go_step
   refine hK _ _ ?_
   clear hK K
   refine wpList_plain rfl fun K hK => ?_
   go_step
   refine hK _ _ ?_
   clear hK K
   have HQR := qh (show q < wr.heap.size ∧ j < wr.heap.size from ⟨B3.out.lt, B4.out.lt⟩)
   replace B3 := qh (B3.out.kept (Kept.new (Below.refl _ _) (.cells ZL4.toArray 26)))
   replace B4 := qh (B4.out.kept (Kept.new (Below.refl _ _) (.cells ZL4.toArray 26)))
   have K10 := qh (Kept.new K9.out (.cells ZL4.toArray 26))
   have B5 := qh (Bx.new wr ZL4 26 wr.heap.size rfl)
   have HY := qh (show w1.heap.size ≤ wr.heap.size from K9.out.size)
   obtain ⟨y, hy⟩ : ∃ y, y = wr.heap.size := ⟨_, rfl⟩
   rw [← hy] at B5 HY HQR ⊢
   clear hy K9 hidx
   generalize World.alloc wr _ = w11 at *
   refine wpList_plain rfl fun K hK => ?_
   go_step
   refine hK _ _ ?_
   clear hK K
   refine wpList_plain rfl fun K hK => qaa (vs := (LC3 g0 g1 g2 g3 g4 g5 g6)) (b := y) (n := 7) _ _ rfl rfl rfl B5.out rfl rfl (by kernel_rfl) rfl (hK _ _ ?_)
   clear hK K
   replace B5 := qh (B5.out.row (LC3 g0 g1 g2 g3 g4 g5 g6))
   replace B4 := qh (B4.out.off (g := y) (by have := HQR.out; omega) (LC3 g0 g1 g2 g3 g4 g5 g6))
   replace B3 := qh (B3.out.off (g := y) (by have := HQR.out; omega) (LC3 g0 g1 g2 g3 g4 g5 g6))
   replace K10 := qh (Kept.row K10.out HY.out (LC3 g0 g1 g2 g3 g4 g5 g6))
   generalize World.setRow w11 _ _ = w12 at *
   go_upto_region 11 with fail
   refine wp_region_list ?_
   refine wpList_plain rfl fun K hK => ?_
   go_step
   refine hK _ _ ?_
   clear hK K
   refine wpList_plain rfl fun K hK => qai (vs := (LC3 g0 g1 g2 g3 g4 g5 g6)) (b := y) (n := 7) _ rfl rfl B5.out rfl underlying26 rfl (by kernel_rfl) (hK _ _ ?_)
   clear hK K
   refine wpList_plain rfl fun K hK => ?_
   go_step
   (with_reducible refine (COVG.out _ (K1.out.trans' K10.out)).mono ?_)
   rintro e w13 ⟨rfl, hk13⟩
   refine hK _ _ ?_
   clear hK K
   replace B3 := qh (B3.out.kept hk13)
   replace B4 := qh (B4.out.kept hk13)
   have K13 := qh (K10.out.trans' hk13)
   clear hk13 K10 COVG
   have e0 := B3.out.c _ HC0.out
   have e1 := B3.out.c _ HC1.out
   have f0 := B3.out.f (m * 2)
   have f1 := B3.out.f (m * 2 + 1)
   refine wpList_plain rfl fun K hK => ?_
   go_step
   refine hK _ _ ?_
   clear hK K
   refine wpList_plain rfl fun K hK => ?_
   go_step
   refine hK _ _ ?_
   clear hK K
   refine wpList_plain rfl fun K hK => ?_
   go_step
   refine hK _ _ ?_
   clear hK K
   refine wpList_plain rfl fun K hK => ?_
   go_step
   refine hK _ _ ?_
   clear hK K
   refine wpList_plain rfl fun K hK => ?_
   go_step
   refine hK _ _ ?_
   clear hK K
   have B3N := qh (show Bx ((w13.setCell ⟨q, m * 2, none⟩ (.complex .f64 x1 x2)).setCell ⟨q, m * 2 + 1, none⟩ (.float .f64 x3)) q (cvl qs (m + 1)) from by
    rw [HNX8.out]
    exact (B3.out.set (m * 2) _ (by rw [HL8.out]; omega)).set (m * 2 + 1) _ (by rw [List.length_set, HL8.out]; omega))
   have B4N := qh (show Bx ((w13.setCell ⟨q, m * 2, none⟩ (.complex .f64 x1 x2)).setCell ⟨q, m * 2 + 1, none⟩ (.float .f64 x3)) j QL from (B4.out.far ⟨q, m * 2, none⟩ (by have := HQ8.out; show j ≠ q; omega) _).far ⟨q, m * 2 + 1, none⟩ (by have := HQ8.out; show j ≠ q; omega) _)
   have K14 := qh (show Kept w1 ((w13.setCell ⟨q, m * 2, none⟩ (.complex .f64 x1 x2)).setCell ⟨q, m * 2 + 1, none⟩ (.float .f64 x3)) from (K13.out.set HQ.out (m * 2) _).set HQ.out (m * 2 + 1) _)
   clear e0 e1 f0 f1 B3 B4 K13 HC0 HC1 HNX8 HL8
   generalize ((w13.setCell ⟨q, m * 2, none⟩ (.complex .f64 x1 x2)).setCell ⟨q, m * 2 + 1, none⟩ (.float .f64 x3)) = w14 at *
   by_cases hce : ce = 0
   ·have HA2 := qh (HAG.out hce)
    subst hce
    clear HAG HNG
    go_wp2_with fail
    go_roundg gm
    case measure => omega
    case rel => exact ⟨m + 1, by omega, by go_num, B3N.out, B4N.out, K14.out, HA2.out⟩
   ·have HN2 := qh (HNG.out hce)
    have hce2 : (ce != 0) = true := by simpa using hce
    clear HAG HNG hce
    go_upto_region 13 with fail
    have KX := qh K14.out
    have QB := qh B3N.out
    have XB := qh B4N.out
    have KD := qh (show Kept w1 (w14).drew from KX.out.trans' (Below.refl _ w14).drew)
    have B0d := qh (B0.out.kept KD.out)
    have B1d := qh (B1.out.kept KD.out)
    have HNE := qh (show q ≠ b ∧ q ≠ b + 1 from by have h1 := (B1.out).lt; have h2 := HQ.out; omega)
    have HNX := qh (show j ≠ b ∧ j ≠ b + 1 from by have h1 := (B1.out).lt; have h2 := HG2.out; omega)
    have hS0 : Bx (w14).drew q (cvl qs (m + 1)) ∧ Bx (w14).drew j QL := ⟨QB.out.kept (Below.refl _ w14).drew, XB.out.kept (Below.refl _ w14).drew⟩
    refine qab (fun W => Bx W q (cvl qs (m + 1)) ∧ Bx W j QL) [4] (by kernel_rfl) ?_ (fun hHeld => ?_)
    ·assumption
    refine yS (v := .agg QL.toArray) 0 66 ?_ ?_
    ·intro w hSw; (try dsimp only at hSw); exact qaw (vs := QL) (n := 28) _ rfl rfl hSw.2 HLN.out underlying141 rfl (by kernel_rfl)
    try simp only [Act.put, tdy]
    refine yS (v := .agg (cvl qs (m + 1)).toArray) 1 67 ?_ ?_
    ·intro w hSw; (try dsimp only at hSw); exact qaw (vs := (cvl qs (m + 1))) (n := 8) _ rfl rfl hSw.1 HL9.out.1 underlying142 rfl (by kernel_rfl)
    try simp only [Act.put, tdy]
    refine oS 2 fun K hK => ?_
    (refine qbC rfl (qaa (vs := QL) (b := b) (n := 28) _ _ rfl rfl rfl B0d.out HLN.out rfl (by kernel_rfl) HOC.out ?_); have hS1 : Bx (World.setRow (w14).drew (b) QL.toArray) q (cvl qs (m + 1)) ∧ Bx (World.setRow (w14).drew (b) QL.toArray) j QL := ⟨hS0.1.off HNE.out.1 QL, hS0.2.off HNX.out.1 QL⟩)
    refine hK.out _ _ ?_ (fun hHeld => ?_)
    ·assumption
    clear hK K
    try simp only [Act.put, List.setIfInBounds_toArray]
    refine oS 3 fun K hK => ?_
    (refine qbC rfl (qaa (vs := (cvl qs (m + 1))) (b := b + 1) (n := 8) _ _ rfl rfl rfl (B1d.out.off (g := b) (by omega) QL) HL9.out.1 rfl (by kernel_rfl) HL9.out.2 ?_); have hS2 : Bx (World.setRow (World.setRow (w14).drew (b) QL.toArray) (b + 1) (cvl qs (m + 1)).toArray) q (cvl qs (m + 1)) ∧ Bx (World.setRow (World.setRow (w14).drew (b) QL.toArray) (b + 1) (cvl qs (m + 1)).toArray) j QL := ⟨hS1.1.off HNE.out.2 (cvl qs (m + 1)), hS1.2.off HNX.out.2 (cvl qs (m + 1))⟩)
    refine hK.out _ _ ?_ (fun hHeld => ?_)
    ·assumption
    clear hK K
    try simp only [Act.put, List.setIfInBounds_toArray]
    refine eS 4 fun K hK => ?_
    go_simp
    refine hK.out _ _ ?_
    clear hK K
    try simp only [Act.put, tdy]
    refine dS ?_ _
    go_wp2_with fail
    refine qd4 results72 underlying141 rfl (by kernel_rfl) underlying142 rfl (by kernel_rfl) rfl rfl rfl ((B0d.out.row QL).off (g := b + 1) (by omega) (cvl qs (m + 1))) HLN.out ((B1d.out.off (g := b) (by omega) QL).row (cvl qs (m + 1))) HL9.out.1 ⟨_, rfl, (HN2.out _ ⟨QL, cvl qs (m + 1), HLN.out, HL9.out.1, HOC.out, HL9.out.2, rfl⟩), Kept.rows (K1.out.trans' KD.out) (show w.heap.size ≤ b from HB.out) (show w.heap.size ≤ b + 1 by have := HB.out; omega) _ _⟩
theorem qgj {w : World} {base p : Nat} {v : Value} {u : RuD} {S : StD} {k : Nat} {n : NdD} (hM : TrM w base p v u S) (hS : GoodS S) (hk : S.L[k]? = some n) (hT : T32 w) :
  Calls prog 72 #[.pointer (some ⟨p, 0, none⟩), .int .i64 (k : Int)] w fun en w' => ∃ x, en = .returned x ∧ qd1 (qal S k) x ∧ Kept w w' := by
 by_cases h0 : n.kids = none ∧ n.told = 0 ∧ n.depth < 40 ∧ S.n + 3 ≤ 65536
 ·cases hP : qbp n.sq with
  | none =>
   have e : qal S k = none := by
    unfold qal; rw [hk]; simp only; rw [if_pos h0]; unfold qcD; rw [hP]; rfl
   rw [e]
   exact qjb hM hS hk hT h0 hP
  | some l =>
   have hl := (qd2 (hS.nd k n hk).sq hP).1
   match l, hl, hP with
   | [q0, q1, q2, q3], _, hP => exact qih hM hS hk hT h0 hP
 ·have e : qal S k = none := by
   unfold qal; rw [hk]; simp only; rw [if_neg h0]
  rw [e]
  exact qjR hM hS hk h0
end
theorem qeZ (f : Nat → Bool) : ∀ (k i j : Nat), i ≤ j → qaO f k i j ≤ j
 | 0, i, j, h => h
 | k + 1, i, j, h => by
  unfold qaO
  split
  ·split
   ·have := qeZ f k i ((i + j) / 2) (by omega); omega
   ·exact qeZ f k _ j (by omega)
  ·exact h
theorem qhu {s : SqD} (h : sqB s = true) : (qaj s).1.re < 18446744073709551616 ∧ (qaj s).1.im < 18446744073709551616 ∧ (qaj s).1.r < 18446744073709551616 := by
 have hm := qam.1 (qgu h)
 have h1 := qdY hm.1
 have h2 := qdY hm.2
 unfold qaj
 split
 ·exact ⟨by decide, by decide, by decide⟩
 ·split
  ·split
   ·split
    ·exact ⟨by decide, by decide, by decide⟩
    ·split
     ·rename_i l _ _ _ n _ _
      have := qeZ (qbb n) 64 0 qbB (Nat.zero_le _)
      refine ⟨h1, h2, ?_⟩
      show qaO (qbb n) 64 0 qbB < _
      unfold qbB at this ⊢
      omega
     ·exact ⟨by decide, by decide, by decide⟩
   ·exact ⟨by decide, by decide, by decide⟩
  ·exact ⟨by decide, by decide, by decide⟩
def qaD (u : RuD) (s : SqD) : Nat := qfK u (qaj s).1.re (qaj s).1.im (qaj s).1.r
theorem qkZ (u : RuD) (s : SqD) : qaD u s ≤ 2 := qh9 ..
def qbW (u : RuD) (n : NdD) (q : SqD × SqD × SqD × SqD) (m : Nat) : List NdD := ([q.1, q.2.1, q.2.2.1, q.2.2.2].take m).map fun s => qfq n s (qaD u s)
theorem qfX (u : RuD) (n : NdD) (q : SqD × SqD × SqD × SqD) {m : Nat} (hm : m ≤ 4) : (qbW u n q m).length = m := by
 unfold qbW; rw [List.length_map, List.length_take]; simp; omega
theorem qkz (u : RuD) (n : NdD) (q : SqD × SqD × SqD × SqD) {m : Nat} {s : SqD} (hs : [q.1, q.2.1, q.2.2.1, q.2.2.2][m]? = some s) : qbW u n q (m + 1) = qbW u n q m ++ [qfq n s (qaD u s)] := by
 unfold qbW
 rw [List.take_add_one, hs, Option.toList_some, List.map_append]
 rfl
theorem qkF (u : RuD) (L : List NdD) (k : Nat) (n : NdD) (q : SqD × SqD × SqD × SqD) (hk : k < L.length) : (L ++ qbW u n q 4).set k (n.part L.length) = qak L k n q (qaD u) := by
 unfold qak
 rw [List.set_append_left _ _ hk]
 rfl
def plV (N m : Nat) : List Value := (List.range 4).map fun i => .int .i64 (if i < m then ((N + i : Nat) : Int) else 0)
theorem qmT (N : Nat) {m : Nat} (hm : m < 4) : plV N (m + 1) = (plV N m).set m (.int .i64 ((N + m : Nat) : Int)) := by
 rcases (show m = 0 ∨ m = 1 ∨ m = 2 ∨ m = 3 by omega) with rfl | rfl | rfl | rfl <;> rfl
theorem qeT {t : SqD → Nat} {S : StD} {k : Nat} (h : qal S k = none) : qaH t S k = (S, false) := by unfold qaH; rw [h]
theorem qd5 {t : SqD → Nat} {S : StD} {k : Nat} {n : NdD} {q : SqD × SqD × SqD × SqD} (h : qal S k = some (n, q)) : qaH t S k = (⟨qak S.L k n q t, S.n + 3⟩, true) := by unfold qaH; rw [h]
section
attribute [local go_sem] qah qae
theorem Far.set {s : Nat → Prop} {a b : World} (h : Far s a b) (q : Addr) (x : Value) (hq : q.block < a.heap.size → s q.block) : Far s a (b.setCell q x) :=
 ⟨h.os, h.tape, h.output, by simpa [World.setCell] using h.size, fun i hi hs => (Below.heap_setCell b q x i (fun e => by subst e; exact hs (hq hi))).trans (h.block i hi hs)⟩
theorem Far.drew {s : Nat → Prop} {a b : World} (h : Far s a b) : Far s a b.drew := ⟨h.os, h.tape, h.output, h.size, h.block⟩
def qjs (w : World) (base p : Nat) (v : Value) (u : RuD) (S : StD) (r : StD × Bool) (en : Ending) (w' : World) : Prop :=
 ∃ v', en = .returned (.bool r.2) ∧ TrM w' base p v' u r.1 ∧ Far (TrB p v) w w' ∧ (v'.ownBlock = v.ownBlock ∨ ∀ i, v'.ownBlock = some i → w.heap.size ≤ i)
set_option maxRecDepth 100000 in
set_option maxHeartbeats 6400000 in
theorem qn5 {w : World} {base p : Nat} {v : Value} {u : RuD} {S : StD} {k : Nat} {n : NdD} (hM : TrM w base p v u S) (hS : GoodS S) (hk : S.L[k]? = some n) (hT : T32 w) (hu : u.ok) (h0 : qal S k = none) :
  Calls prog 34 #[.pointer (some ⟨p, 0, none⟩), .int .i64 (k : Int)] w (qjs w base p v u S (qaH (qaD u) S k)) := by
 have SQ := qh (qgj hM hS hk hT)
 rw [h0] at SQ
 rw [qeT h0]
 have HM := qh hM
 clear hM hS hk hT hu h0
 go_enter func34, ntmps34
 go_upto_region 1 with fail
 refine wp_region_list ?_
 refine wpList_plain rfl fun K hK => ?_
 go_step
 refine hK _ _ ?_
 clear hK K
 refine wpList_plain rfl fun K hK => ?_
 go_step
 refine hK _ _ ?_
 clear hK K
 refine wpList_plain rfl fun K hK => ?_
 go_step
 (with_reducible refine SQ.out.mono ?_)
 rintro e w2 ⟨x, rfl, hx, hk2⟩
 have HK2 := qh hk2
 clear hk2 SQ
 obtain ⟨xs, ys, l1, l2, o1, o2, rfl⟩ := hx
 have L1 := qh l1
 have L2 := qh l2
 have O1 := qh o1
 have O2 := qh o2
 clear l1 l2 o1 o2
 refine hK _ _ ?_
 clear hK K
 refine wpList_plain rfl fun K hK => ?_
 go_step
 refine hK _ _ ?_
 clear hK K
 refine wpList_plain rfl fun K hK => ?_
 go_step
 refine hK _ _ ?_
 clear hK K
 refine wpList_plain rfl fun K hK => ?_
 go_step
 refine hK _ _ ?_
 clear hK K
 refine wpList_plain rfl fun K hK => ?_
 go_step
 refine hK _ _ ?_
 clear hK K
 refine wpList_plain rfl fun K hK => ?_
 go_step
 refine hK _ _ ?_
 clear hK K
 have K3 := qh (Kept.new HK2.out (.cells ZL2.toArray 141))
 have B0 := qh (Bx.new w2 ZL2 141 w2.heap.size rfl)
 have HG0 := qh (show w.heap.size ≤ w2.heap.size from HK2.out.size)
 obtain ⟨b, hb⟩ : ∃ b, b = w2.heap.size := ⟨_, rfl⟩
 rw [← hb] at B0 HG0 ⊢
 clear hb HK2
 generalize World.alloc w2 _ = w3 at *
 refine wpList_plain rfl fun K hK => ?_
 go_step
 refine hK _ _ ?_
 clear hK K
 have HBQ0 := qh B0.out.lt
 replace B0 := qh (B0.out.kept (Kept.new (Below.refl _ w3) (.cells ZL3.toArray 142)))
 have K4 := qh (Kept.new K3.out (.cells ZL3.toArray 142))
 have B1 := qh (Bx.new w3 ZL3 142 w3.heap.size rfl)
 have HG1 := qh (show w.heap.size ≤ w3.heap.size from K3.out.size)
 obtain ⟨q, hq⟩ : ∃ q, q = w3.heap.size := ⟨_, rfl⟩
 have HBQ := qh (show b ≠ q from by have := HBQ0.out; omega)
 rw [← hq] at B1 HG1 ⊢
 clear hq K3 HBQ0
 generalize World.alloc w3 _ = w4 at *
 refine wpList_plain rfl fun K hK => qaa (vs := xs) (b := b) (n := 28) _ _ rfl rfl rfl B0.out L1.out rfl (by kernel_rfl) O1.out (hK _ _ ?_)
 clear hK K
 replace B0 := qh (B0.out.row xs)
 replace B1 := qh (B1.out.off (g := b) (fun e => HBQ.out e.symm) xs)
 replace K4 := qh (Kept.row K4.out HG0.out xs)
 generalize World.setRow w4 _ _ = w5 at *
 refine wpList_plain rfl fun K hK => qaa (vs := ys) (b := q) (n := 8) _ _ rfl rfl rfl B1.out L2.out rfl (by kernel_rfl) O2.out (hK _ _ ?_)
 clear hK K
 replace B1 := qh (B1.out.row ys)
 replace B0 := qh (B0.out.off (g := q) HBQ.out ys)
 replace K4 := qh (Kept.row K4.out HG1.out ys)
 generalize World.setRow w5 _ _ = w6 at *
 go_wp2_with fail
 exact bodyPost_ret (v := .bool false) (by simp [results, results34, go_sem]) rfl ⟨v, rfl, HM.out.kept K4.out, Far.qcE K4.out, .inl rfl⟩
end
section
theorem qbg {P : Program} {o : Oper} {a : Act} {w : World} {n : Nat} {next : Act → World → Prop} {Q : Exit → Act → World → Prop} (hd : ∀ c, o.op ≠ .defer c) (h : Oper.wp P o a w next Q) : o.wpIn Fence.wide n P a w next Q := by
 unfold Oper.wp at h
 unfold Oper.wpIn
 refine ⟨fun _ _ => trivial, ?_⟩
 rw [Oper.semAt_eq _ _ _ hd]
 generalize (execOp a.eval o).run P w = r at *
 cases r with
 | ok x w' =>
  cases x <;> simp only [Oper.upon] at h <;> simp only [Oper.uponIn]
  case value => exact h
  case skip => exact h
  case defer => exact h
  case enter f args => exact ⟨fun h0 => by simp [Fence.wide] at h0, callsIn_wide.2 h⟩
  case row r args => exact ⟨fun h0 => by simp [Fence.wide] at h0, fun c cs _ => let ⟨v, w2, r9, s9⟩ := h c cs; ⟨v, w2, r9, stepsIn_wide.2 s9⟩⟩
 | halt x w' => cases x <;> simp only [Oper.upon] at h <;> simp only [Oper.uponIn]; exact h
structure Same (T : Nat → Prop) (w W : World) : Prop where
 size : w.heap.size ≤ W.heap.size
 block : ∀ k, T k → W.heap[k]? = w.heap[k]?
section
variable {T : Nat → Prop} {w W X : World}
theorem Same.kept (h : Same T w W) (hk : Kept W X) (hT : ∀ k, T k → k < w.heap.size) : Same T w X :=
 ⟨Nat.le_trans h.size hk.size, fun k hh => (hk.block k (by have := hT k hh; have := h.size; omega)).trans (h.block k hh)⟩
theorem Same.grown {row : Option Nat} (h : Same T w W) (hg : W.grownBy X row) (hT : ∀ k, T k → k < w.heap.size) (hr : ∀ k, T k → row ≠ some k) : Same T w X :=
 ⟨Nat.le_trans h.size hg.size, fun k hh => (hg.block k (by have := hT k hh; have := h.size; omega) (fun e => hr k hh e.symm)).trans (h.block k hh)⟩
theorem Same.qo3 {U : World → Nat → Prop} (h : Same T w W) (hk : qet U W X) (hc : ∀ k, T k → ∃ o, w.heap[k]? = some o ∧ o.isCells = true) (hU : ∀ k, T k → ¬ U W k) : Same T w X :=
 ⟨Nat.le_trans h.size hk.size, fun k hh => by
  obtain ⟨o, ho, hco⟩ := hc k hh
  rw [hk.same k o ((h.block k hh).trans ho) hco (hU k hh), ho]⟩
theorem Bx.same {b : Nat} {vs : List Value} (h : Bx w b vs) (hs : Same T w W) (ht : T b) : Bx W b vs := by
 obtain ⟨t, h⟩ := h
 exact ⟨t, (hs.block b ht).trans h⟩
theorem Own.same {base size n : Nat} {v : Value} {xs : List Value} (h : Own w base size v n xs) (hs : Same T w W) (ht : ∀ k, v.ownBlock = some k → T k) : Own W base size v n xs :=
 h.keep hs.size fun g hg o => ⟨World.cell?_of_block (a := ⟨g, o, none⟩) (hs.block g (ht g hg)), World.frozen?_of_block (a := ⟨g, o, none⟩) (hs.block g (ht g hg))⟩
theorem TrM.same {base p : Nat} {v : Value} {u : RuD} {S : StD} (h : TrM w base p v u S) (hs : Same T w W) (ht : ∀ k, TrB p v k → T k) : TrM W base p v u S :=
 ⟨h.box.same hs (ht p (.inl rfl)), h.own.same hs (fun k hk => ht k (.inr hk)), h.ge, h.off⟩
theorem cells_of_cell {a : Addr} {v : Value} (h : w.cell? a = some v) : ∃ o, w.heap[a.block]? = some o ∧ o.isCells = true := by
 unfold World.cell? at h
 cases ho : w.heap[a.block]? with
 | none => simp [ho] at h
 | some o => exact ⟨o, rfl, by cases o <;> simp_all [Obj.isCells]⟩
theorem Own.cellsB {base size n c g off : Nat} {xs : List Value} (h : Own w base size (.slice (some ⟨g, off, none⟩) n c) n xs) (hc : 0 < c * size) : ∃ o, w.heap[g]? = some o ∧ o.isCells = true := by
 rcases h.2 with ⟨h, _⟩ | ⟨g', off', c', e, _, _, _, _, _, h⟩
 ·cases h
 ·injection e with e1 _ e2
  injection e1 with e1
  injection e1 with e1 e3
  subst e1; subst e2
  have h0 := (h 0 hc).1
  cases h1 : w.cell? ⟨g, off' + 0, none⟩ with
  | none => rw [h1] at h0; cases h0
  | some v => exact cells_of_cell h1
theorem Bx.qfY {b : Nat} {vs : List Value} {row : Option Nat} (h : Bx w b vs) (hg : w.grownBy W row) (hne : row ≠ some b) : Bx W b vs := by
 have hl := h.lt
 obtain ⟨t, h⟩ := h
 exact ⟨t, (hg.block b hl (fun e => hne e.symm)).trans h⟩
theorem TrM.cellsB {base p : Nat} {v : Value} {u : RuD} {S : StD} (h : TrM w base p v u S) (hp : 0 < S.L.length) : ∀ k, TrB p v k → k < w.heap.size ∧ ∃ o, w.heap[k]? = some o ∧ o.isCells = true := by
 intro k hk
 rcases hk with rfl | hk
 ·exact ⟨h.box.lt, cells_of_cell (h.box.c 0 rfl)⟩
 ·obtain ⟨g, off, c, rfl, h1, h2, h3, h4, h5⟩ := h.form hp
  cases hk
  refine ⟨h2, ?_⟩
  obtain ⟨n, hn⟩ : ∃ n, S.L[0]? = some n := ⟨_, List.getElem?_eq_getElem hp⟩
  exact cells_of_cell (h4 0 n 0 _ hn rfl)
end
structure At (B : Nat) (U : World → Nat → Prop) (J : World → Prop) (W0 W : World) : Prop where
 inv : J W
 used : ∀ k, U W k → U W0 k
 size : W0.heap.size ≤ W.heap.size
 lt0 : ∀ k, U W0 k → k < W0.heap.size
section
variable {B B' : Nat} {U : World → Nat → Prop} {β : Type} {J : β → World → Prop} {s : β} {W0 W X : World}
theorem At.grown {row : Option Nat} (h : At B U (J s) W0 W) (hJ : qei B U J) (hU : qiC B' U) (hlt : ∀ s W, J s W → ∀ k, U W k → k < W.heap.size) (hg : W.grownBy X row) (hr : ∀ r, row = some r → B ≤ r ∧ ¬ U W0 r) : At B U (J s) W0 X :=
 ⟨hJ s W X row h.inv hg (fun r e => ⟨(hr r e).1, fun hu => (hr r e).2 (h.used r hu)⟩),
  fun k hk => h.used k (hU.step W X row (hlt s W h.inv) hg (fun r e hu => (hr r e).2 (h.used r hu)) k hk), Nat.le_trans h.size hg.size, h.lt0⟩
theorem qgo (h : Kept W X) : W.grownBy X none := ⟨h.os, h.tape, h.output, h.size, fun k hk _ => h.block k hk⟩
theorem At.kept (h : At B U (J s) W0 W) (hJ : qei B U J) (hU : qiC B' U) (hlt : ∀ s W, J s W → ∀ k, U W k → k < W.heap.size) (hk : Kept W X) : At B U (J s) W0 X :=
 h.grown hJ hU hlt (qgo hk) (fun r e => by cases e)
end
end
section
section
variable {P : Program}
theorem qfL (w : World) (base : Nat) (t ty e : TypeId) (i : TypeInfo) (z : Value) (size bytes : Nat) (ht : P.underlying t = some (.slice e)) (hi : P.info? e = some i) (hz : i.zero = some z)
  (hsize : i.size = size) (hby : i.bytes = bytes) (hzs : z.cells.size = size) (hsz : 0 < size)
  (v : Value) (n : Nat) (xs : List Value) (hown : Own w base size v n xs)
  (A : Option Addr) (m c : Nat) (news : List Value) (hl : news.length = m * size) (hr : Row w A news) (h1 : ∀ u ∈ news, u.oneCell' = true)
  (h63 : n + m ≤ maxLen) (hbytes : (n + m) * bytes ≤ 140737488355328) (hbase : base ≤ w.heap.size) :
  ∃ v' w', (Builtin.append_ #[t, t] ty #[v, .slice A m c]).run P w = .ok v' w' ∧ Own w' base size v' (n + m) (xs ++ news) ∧ w.grownBy w' v.ownBlock ∧
   (v'.ownBlock = v.ownBlock ∨ ∀ k, v'.ownBlock = some k → w.heap.size ≤ k) ∧ Own w' base size v n xs := by
 rcases A with _ | ad
 ·have hn : news = [] := by
   rcases hr with h | ⟨b, off, h, _⟩
   ·exact h
   ·cases h
  subst hn
  have hm : m = 0 := by
   have h0 : m * size = 0 := by simpa using hl.symm
   rcases Nat.mul_eq_zero.1 h0 with h | h
   ·exact h
   ·omega
  subst hm
  refine ⟨v, w, ?_, by simpa using hown, World.grownBy.refl w _, .inl rfl, hown⟩
  rcases hown.2 with ⟨rfl, rfl⟩ | ⟨g, off, cap, rfl, _, _, hnc, _⟩
  ·simp [Builtin.append_, run_underlying ht, sizeOf, typeInfo, hi, Builtin.lenOf, Builtin.firstCells]
  ·simp [Builtin.append_, run_underlying ht, sizeOf, typeInfo, hi, Builtin.lenOf, Builtin.firstCells, hnc, storeCells]
 ·have hcells : ∀ j u, news[j]? = some u → w.cell? (ad.add j) = some u := by
   intro j u hu
   rcases hr with h | ⟨b, off, h, hc⟩
   ·subst h; simp at hu
   ·injection h with h
    subst h
    have : (⟨b, off, none⟩ : Addr).add j = ⟨b, off + j, none⟩ := by unfold Addr.add; split <;> simp_all
    rw [this]; exact hc j u hu
  rcases hown.2 with ⟨rfl, rfl⟩ | ⟨g, off, cap, rfl, hbg, hg, hnc, hcm, hx, hc⟩
  ·have hx : xs = [] := List.eq_nil_of_length_eq_zero (by simpa using hown.1)
   subst hx
   obtain ⟨v', w', hrun, h2, h3, _, h5⟩ := run_append_own_at (P := P) w base t ty e i z size bytes ht hi hz hsize hby hzs hsz (.slice none 0 0) 0 [] (World.ownsRow_nil w base e size) ad m c news hl hcells h1 h63 hbytes hbase
   exact ⟨v', w', hrun, Own.qh8 h2, h3, h5.imp id (fun e k hk => by rw [e] at hk; injection hk with hk; omega), Own.nil _ _ _⟩
  ·by_cases hroom : n + m ≤ cap
   ·have hmul : n * size + m * size ≤ cap * size := by rw [← Nat.add_mul]; exact Nat.mul_le_mul_right _ hroom
    have hrun := run_append_room_cells (P := P) w t ty e i ht hi g off n cap ad m c news (by rw [hsize]; exact hl) hcells h1 hroom
     (fun j hj => by rw [hsize, Nat.add_assoc]; exact (hc _ (by omega)).1) (fun j hj => by rw [hsize, Nat.add_assoc]; exact (hc _ (by omega)).2)
    rw [hsize] at hrun
    have hgr := qcA w g (off + n * size) news
    have hsome : ∀ j, j < news.length → (w.cell? ⟨g, off + n * size + j, none⟩).isSome = true := fun j hj => by rw [Nat.add_assoc]; exact (hc _ (by omega)).1
    refine ⟨_, _, hrun, ⟨by rw [List.length_append, hown.1, hl, Nat.add_mul], .inr ⟨g, off, cap, rfl, hbg, Nat.lt_of_lt_of_le hg hgr.size, hroom, hcm, fun j u hu => ?_, fun j hj => ?_⟩⟩, hgr, .inl rfl, hown.1, .inr ⟨g, off, cap, rfl, hbg, Nat.lt_of_lt_of_le hg hgr.size, hnc, hcm, fun j u hu => ?_, fun j hj => ?_⟩⟩
    ·by_cases hj : j < n * size
     ·rw [World.cell?_setCells_out g news _ w ⟨g, off + j, none⟩ (fun _ _ => .inl (by show off + j < off + n * size; omega))]
      rw [List.getElem?_append_left (by rw [hown.1]; exact hj)] at hu
      exact hx j u hu
     ·rw [List.getElem?_append_right (by rw [hown.1]; omega), hown.1] at hu
      obtain ⟨q, rfl⟩ : ∃ q, j = n * size + q := ⟨j - n * size, by omega⟩
      have hq : q < news.length := by
       rcases Nat.lt_or_ge q news.length with h | h
       ·exact h
       ·rw [List.getElem?_eq_none (by omega)] at hu; cases hu
      rw [← Nat.add_assoc, World.cell?_setCells_in g news (off + n * size) w hsome q hq, ← hu, Nat.add_sub_cancel_left, List.getElem?_eq_getElem hq]
    ·rw [World.frozen?_setCells]
     refine ⟨?_, (hc j hj).2⟩
     by_cases hin : n * size ≤ j ∧ j < n * size + news.length
     ·obtain ⟨q, rfl⟩ : ∃ q, j = n * size + q := ⟨j - n * size, by omega⟩
      rw [← Nat.add_assoc, World.cell?_setCells_in g news (off + n * size) w hsome q (by omega)]
      rfl
     ·rw [World.cell?_setCells_out g news _ w ⟨g, off + j, none⟩ (fun _ _ => by show off + j < off + n * size ∨ off + n * size + news.length ≤ off + j; omega)]
      exact (hc j hj).1
    ·have hj : j < n * size := by rw [← hown.1]; exact (List.getElem?_eq_some_iff.1 hu).1
     rw [World.cell?_setCells_out g news _ w ⟨g, off + j, none⟩ (fun _ _ => .inl (by show off + j < off + n * size; omega))]
     exact hx j u hu
    ·rw [World.frozen?_setCells]
     refine ⟨?_, (hc j hj).2⟩
     by_cases hin : n * size ≤ j ∧ j < n * size + news.length
     ·obtain ⟨q, rfl⟩ : ∃ q, j = n * size + q := ⟨j - n * size, by omega⟩
      rw [← Nat.add_assoc, World.cell?_setCells_in g news (off + n * size) w hsome q (by omega)]
      rfl
     ·rw [World.cell?_setCells_out g news _ w ⟨g, off + j, none⟩ (fun _ _ => by show off + j < off + n * size ∨ off + n * size + news.length ≤ off + j; omega)]
      exact (hc j hj).1
   ·obtain ⟨v', w', hrun, h2, h3⟩ := run_append_arg_grows (P := P) w t ty e i z size bytes ht hi hz hsize hby hzs hsz ⟨g, off, none⟩ n cap xs hown.1 (fun j u hu => by rw [Addr.add_lit]; exact hx j u hu) ad m c news hl hcells (by omega) h63 hbytes
    have hown2 := (Own.qh8 h2)
    refine ⟨v', w', hrun, hown2.less hbase, ⟨h3.os, h3.tape, h3.output, h3.size, fun k hk _ => h3.block k hk (by simp)⟩, ?_⟩
    refine ⟨.inr fun k hk => (hown2.lt k hk).1, hown.1, .inr ⟨g, off, cap, rfl, hbg, Nat.lt_of_lt_of_le hg h3.size, hnc, hcm, fun j u hu => ?_, fun j hj => ?_⟩⟩
    ·rw [World.cell?_of_block (a := ⟨g, off + j, none⟩) (h3.block g hg (by simp))]; exact hx j u hu
    ·rw [World.cell?_of_block (a := ⟨g, off + j, none⟩) (h3.block g hg (by simp)), World.frozen?_of_block (a := ⟨g, off + j, none⟩) (h3.block g hg (by simp))]; exact hc j hj
end
theorem qfh {P : Program} (w : World) {ops : Array Oper} {o : Oper} {a : Act} {K : Act → World → Prop} {Q : Exit → Act → World → Prop} {E : Prop} (hgd : o.guard = none) (s x : Operand) (t : TypeId)
  (ho : o.op = .call { callee := .builtin .append, args := #[s, x], argTypes := #[t, t] })
  (base : Nat) (e : TypeId) (i : TypeInfo) (z : Value) (size bytes : Nat) (ht : P.underlying t = some (.slice e)) (hi : P.info? e = some i) (hz : i.zero = some z)
  (hsize : i.size = size) (hby : i.bytes = bytes) (hzs : z.cells.size = size) (hsz : 0 < size)
  (v : Value) (n : Nat) (xs : List Value) (hs : a.eval s = v) (hown : Own w base size v n xs)
  (A : Option Addr) (m c : Nat) (news : List Value) (hx : a.eval x = .slice A m c) (hl : news.length = m * size) (hr : Row w A news) (h1 : ∀ u ∈ news, u.oneCell' = true)
  (h63 : n + m ≤ maxLen) (hbytes : (n + m) * bytes ≤ 140737488355328) (hbase : base ≤ w.heap.size)
  (h : ∀ v' w', Own w' base size v' (n + m) (xs ++ news) → w.grownBy w' v.ownBlock → (v'.ownBlock = v.ownBlock ∨ ∀ k, v'.ownBlock = some k → w.heap.size ≤ k) → Own w' base size v n xs → K (a.put o.dst v') w') :
  if Region.wanted o (yielded ops a.tmps) = true then Oper.wp P o a w K Q else E := by
 rw [if_pos (by simp [Region.wanted, hgd])]
 obtain ⟨v', w', hrun, h2, h3, h4, h5⟩ := qfL (P := P) w base t o.type e i z size bytes ht hi hz hsize hby hzs hsz v n xs hown A m c news hl hr h1 h63 hbytes hbase
 unfold Oper.wp execOp
 simp only [ho, resolve, invoke, builtin, Sem.run_bind, Sem.run_pure, Result.andThen_ok, List.map_toArray, List.map_cons, List.map_nil, hs, hx, hrun]
 exact h v' w' h2 h3 h4 h5
end
end Go.Proofs.YtfdnledkcongaaaGreatDoor
