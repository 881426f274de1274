/- The law PicturePuts, walked. -/
import Derived.Test.YtbhgcbgaadnfpaaPutsA
namespace Go.Proofs.Ytbhgcbgaadnfpaa
open Go.RowKit

set_option maxRecDepth 100000 in
set_option maxHeartbeats 400000 in
theorem puts_long (A : Option Addr) (L cl : Nat) (c f s t : Int) (w : World) (hL : 300 < L) :
    Calls Try.prog 7 #[.slice A L cl, .int .i64 c, .int .i64 f, .int .i64 s, .int .i64 t] w fun e w' => e = .returned (.bool true) ∧ Kept w w' := by
  have h1 : (300 : Int) < L := by omega
  go_enter Try.func7, Try.ntmps7
  go_wp2_with (go_at_call 19; refine (awake_any _).mono ?_; rintro e w9 ⟨rfl, hk9⟩)
  go_ret
  exact ⟨rfl, hk9⟩

def CropInv (w2 : World) (N13 N15 N17 : Nat) (W : World) : Prop := (∃ x y z, PBox W N13 x y z) ∧ (∃ x y z, PBox W N15 x y z) ∧ (∃ x y z, PBox W N17 x y z) ∧ Kept w2 W

set_option maxRecDepth 100000 in
set_option maxHeartbeats 6400000 in
theorem puts_any (A : Option Addr) (cl : Nat) (ps : List PicD) (c f s t : Int) (w : World) (hp : Pics w A ps) (hL : ps.length ≤ 300) (hlc : ps.length ≤ cl) (hbnd : ∀ p ∈ ps, p.g.length + 1 ≤ 140737488355328)
    (h0 : -9223372036854775808 ≤ s) (h0' : s ≤ 9223372036854775807) (h1 : -9223372036854775808 ≤ t) (h1' : t ≤ 9223372036854775807) :
    Calls Try.prog 7 #[.slice A ps.length cl, .int .i64 c, .int .i64 f, .int .i64 s, .int .i64 t] w fun e w' => e = .returned (.bool true) ∧ Kept w w' := by
  obtain ⟨i0, hi, hi0, hi1, hi2⟩ := info_parts info_pic
  obtain ⟨L, hLd⟩ : ∃ L, L = ps.length := ⟨_, rfl⟩
  rw [← hLd] at hL hlc ⊢
  have HLD := hide hLd
  have HBND := hide hbnd
  have HP := hide hp
  have HST := hide (And.intro h0 (And.intro h0' (And.intro h1 h1')))
  have n300 : ¬ (300 : Int) < L := by omega
  clear hLd hbnd hp h0 h0' h1 h1'
  go_enter Try.func7, Try.ntmps7
  go_wp2_with fail
  go_loopg [11, 12] L (fun gh v ix wr => ∃ (k : Nat) (es : List Ent) (V : Value), k + gh = L ∧ ix = .int .i64 k ∧ V = v ∧ LentTo w ps k V es wr)
  case atStart => exact ⟨0, [], _, by omega, rfl, rfl, rfl, by simpa [ownV] using Own.nil w w.heap.size 3, fun i p e _ he => by simp at he, Below.refl _ _⟩
  case round =>
    obtain ⟨k, es, v, hkg, rfl, rfl, hlt⟩ := hrel
    cases gk with
    | succ gh =>
      have hkl : (k : Int) < L := by omega
      obtain ⟨p, hpk⟩ : ∃ p, ps[k]? = some p := ⟨_, List.getElem?_eq_getElem (by have := HLD.out; omega)⟩
      obtain ⟨b, off, A', n, c', rfl, hb, c0, c1, c2, hpa⟩ := (HP.out.kept hlt.kept).at_ hpk
      have HPK := hide hpk
      have HLT := hide hlt
      have hbp := HBND.out p (List.mem_of_getElem? hpk)
      have CL : Hid (Calls Try.prog 12 #[.agg #[.int .i64 p.a, .int .i64 p.d, .slice A' n c']] wr fun e w' => ∃ A' c', e = .returned (.agg #[.int .i64 p.a, .int .i64 p.d, .slice A' p.g.length c']) ∧ Own w' wr.heap.size 1 (.slice A' (p.g.length + 1) c') (p.g.length + 1) (bytesV (p.g ++ [77])) ∧ Kept wr w') := by
        have := hpa.len
        subst this
        exact lent_any p.a p.d A' _ c' p.g wr hbp rfl hpa.row
      clear hpk hpa hlt hbp
      go_wp2_with fail
      refine CL.out.mono ?_
      rintro e w1 ⟨A1, c1', rfl, ho1, hk1⟩
      have HO1 := hide ho1
      have HK1 := hide hk1
      clear ho1 hk1 c0 c1 c2
      go_wp2_with (at_builtin; refine wpList_append_row _ rfl _ _ 58 rfl w.heap.size 24 i0 (.agg #[.int .i64 0, .int .i64 0, .slice none 0 0]) 3 40 Try.underlying58 hi hi0 hi1 hi2 rfl (by decide) v k _ rfl ((HLT.out.own.kept HK1.out).alloc _) (some ⟨w1.heap.size, 0, none⟩) 1 1 [.int .i64 p.a, .int .i64 p.d, .slice A1 p.g.length c1'] rfl rfl (Row.new_at _ _ _ _ _ _ rfl rfl) (fun u hu => by simp at hu; rcases hu with rfl | rfl | rfl <;> rfl) ?_ ?_ ?_ ?_)
      · unfold maxLen; omega
      · omega
      · have h1 := HLT.out.kept.size; have h2 := HK1.out.size; simp; omega
      · intro v2 w2 hown2 hg2 hat2
        have HG := hide (HLT.out.grow (e := (A1, c1')) HPK.out (by have := HLD.out; omega) (HK1.out.alloc HK1.out.size _) (by have h1 := HLT.out.kept.size; have h2 := HK1.out.size; simp; omega) ((show LentAt w1 wr.heap.size p (A1, c1') from HO1.out).alloc _) hg2 hown2 (hat2.imp id fun h x hx => by have := h x hx; simpa using this))
        clear hown2 hg2 hat2
        go_wp2
        go_roundg gh
        case measure => omega
        case rel => exact ⟨k + 1, _, _, by omega, by go_num, rfl, HG.out⟩
    | zero =>
      have hkl : ¬ (k : Int) < L := by omega
      obtain rfl : L = k := by omega
      have HLT := hide hlt
      clear hlt hkg
      go_wp2_with (at_builtin; refine wpList_append_row _ rfl _ _ 58 rfl w.heap.size 24 i0 (.agg #[.int .i64 0, .int .i64 0, .slice none 0 0]) 3 40 Try.underlying58 hi hi0 hi1 hi2 rfl (by decide) v L _ rfl (HLT.out.own.alloc _) (some ⟨wr.heap.size, 0, none⟩) 1 1 [.int .i64 (-7), .int .i64 0, .slice none 0 0] rfl rfl (Row.new_at _ _ _ _ _ _ rfl rfl) (fun u hu => by simp at hu; rcases hu with rfl | rfl | rfl <;> rfl) ?_ ?_ ?_ ?_)
      · unfold maxLen; omega
      · omega
      · have h1 := HLT.out.kept.size; simp; omega
      intro v2 w2 hown2 hg2 hat2
      have htk : ps.take L = ps := List.take_of_length_le (by have := HLD.out; omega)
      have hvne : ∀ (i : Nat) (p : PicD) (e : Ent), ps[i]? = some p → es[i]? = some e → ∀ b, (Value.slice e.1 (p.g.length + 1) e.2).ownBlock = some b → some b ≠ v.ownBlock := fun i p e hp he => (HLT.out.each i p e hp he).2
      have hK2 : Kept w w2 := (HLT.out.kept.alloc HLT.out.kept.size _).grown hg2 (by have := HLT.out.kept.size; simp; omega) (fun k hk => by have := (HLT.out.own.lt k hk).1; omega)
      obtain ⟨OA, oc, rfl, hoc1, -, hrow, hoclt, -⟩ := hown2.form
      have LA : Hid (LentAll w2.heap.size ps OA oc es w2) := by
        refine ⟨by rw [HLT.out.len]; exact HLD.out, by rw [← HLD.out]; exact hoc1, by rw [htk] at hrow; exact hrow, fun b off hA => (hoclt _ hA).2.2, fun i p e hp he => ?_, fun p hp => ?_⟩
        · have ha := (HLT.out.each i p e hp he).1
          refine ⟨_, (Own.alloc ha _).grown hg2 (hvne i p e hp he), fun b hb => ?_⟩
          have h1 := (Own.lt ha b hb).2
          have h2 := hg2.size
          simp at h2
          omega
        · obtain ⟨i, hi'⟩ := List.getElem?_of_mem hp
          obtain ⟨b', off', A', n, c', h1, h2, h3, h4, h5, hpa⟩ := HP.out.at_ hi'
          exact ⟨hpa.a0, hpa.a1, hpa.d0, hpa.d1, HBND.out p hp⟩
      have K2 := hide hK2
      have hocL : (L : Int) ≤ (oc : Int) := by omega
      clear htk hvne hK2 hown2 hg2 hat2 hrow hoclt HLT
      obtain ⟨bE, hbE⟩ : ∃ y, y = besideE ps := ⟨_, rfl⟩
      obtain ⟨ba, hba⟩ : ∃ y, y = outA (besideE ps) (besideP ps) := ⟨_, rfl⟩
      obtain ⟨bd, hbd⟩ : ∃ y, y = outD (besideE ps) (besideP ps) := ⟨_, rfl⟩
      obtain ⟨bg, hbg⟩ : ∃ y, y = outG (besideE ps) (besideP ps) := ⟨_, rfl⟩
      obtain ⟨bm, hbm⟩ : ∃ y, y = bg.length := ⟨_, rfl⟩
      have Cb : Hid (∀ W, Kept w2 W → Calls Try.prog 29 #[.slice OA L oc] W (Puts ba bd bm bg bE W)) := fun W hW => by
        rw [hba, hbd, hbm, hbg, hbE, HLD.out]
        exact (beside_any OA oc ps W ((LA.out.move hW).pics) (by have := HLD.out; omega)).mono fun _ _ h => h.puts
      have Rb : Hid (∀ W, Kept w2 W → Calls Try.prog 30 #[.slice A L cl] W (Puts ba bd bm bg bE W)) := fun W hW => by
        rw [hba, hbd, hbm, hbg, hbE, HLD.out]
        exact (rbeside_any A cl ps W ((HP.out.kept K2.out).kept hW) (by have := HLD.out; omega)).mono fun _ _ h => h.puts
      have Lb : Hid (bg.length = bm ∧ bm ≤ 4194304) := ⟨hbm.symm, by rw [hbm, hbg]; exact outG_le _ _ (beside_len ps)⟩
      clear hbE hba hbd hbg hbm
      obtain ⟨zE, hzE⟩ : ∃ y, y = belowE ps := ⟨_, rfl⟩
      obtain ⟨za, hza⟩ : ∃ y, y = outA (belowE ps) (belowP ps) := ⟨_, rfl⟩
      obtain ⟨zd, hzd⟩ : ∃ y, y = outD (belowE ps) (belowP ps) := ⟨_, rfl⟩
      obtain ⟨zg, hzg⟩ : ∃ y, y = outG (belowE ps) (belowP ps) := ⟨_, rfl⟩
      obtain ⟨zm, hzm⟩ : ∃ y, y = zg.length := ⟨_, rfl⟩
      have Cz : Hid (∀ W, Kept w2 W → Calls Try.prog 31 #[.slice OA L oc] W (Puts za zd zm zg zE W)) := fun W hW => by
        rw [hza, hzd, hzm, hzg, hzE, HLD.out]
        exact (below_any OA oc ps W ((LA.out.move hW).pics) (by have := HLD.out; omega)).mono fun _ _ h => h.puts
      have Rz : Hid (∀ W, Kept w2 W → Calls Try.prog 32 #[.slice A L cl] W (Puts za zd zm zg zE W)) := fun W hW => by
        rw [hza, hzd, hzm, hzg, hzE, HLD.out]
        exact (rbelow_any A cl ps W ((HP.out.kept K2.out).kept hW) (by have := HLD.out; omega)).mono fun _ _ h => h.puts
      have Lz : Hid (zg.length = zm ∧ zm ≤ 4194304) := ⟨hzm.symm, by rw [hzm, hzg]; exact outG_le _ _ (below_len ps)⟩
      clear hzE hza hzd hzg hzm
      go_wp2_with fail
      refine (Cb.out _ (Below.refl _ _)).mono ?_
      rintro e w3 ⟨A1, c1, rfl, ho1, hk1⟩
      have K3 := hide (show Kept w2 w3 from hk1)
      have O1 := hide ho1
      have LT1 : Hid (∀ k, (Value.slice A1 bm c1).ownBlock = some k → k < w3.heap.size) := fun k hk => (ho1.lt k hk).2
      clear hk1 ho1
      go_wp2_with fail
      refine (Cb.out _ (K3.out.alloc K3.out.size _)).mono ?_
      rintro e w4 ⟨A2, c2, rfl, ho2, hk2⟩
      have B13 := hide ((PBox.new w3 (.int .i64 ba) (.int .i64 bd) (.slice A1 bm c1) 24 _ rfl).kept hk2)
      have O1 := hide ((O1.out.alloc (.cells #[.int .i64 ba, .int .i64 bd, .slice A1 bm c1] 24)).kept hk2)
      have K4 := hide ((K3.out.alloc K3.out.size (.cells #[.int .i64 ba, .int .i64 bd, .slice A1 bm c1] 24)).trans (hk2.mono (by have := K3.out.size; simp; omega)))
      have n13 := B13.out.lt
      have O2 : Hid (Own w4 (w3.heap.size + 1) 1 (.slice A2 bm c2) bm (bytesV bg)) := by
        have h9 := ho2
        rw [World.size_alloc] at h9
        exact h9
      clear hk2 ho2
      go_wp2_with fail
      refine (Rb.out _ (K4.out.alloc K4.out.size _)).mono ?_
      rintro e w5 ⟨A3, c3, rfl, ho3, hk3⟩
      have B15 := hide ((PBox.new w4 (.int .i64 ba) (.int .i64 bd) (.slice A2 bm c2) 24 _ rfl).kept hk3)
      have B13 := hide ((B13.out.kept ((Below.refl _ w4).alloc (Nat.le_refl _) (.cells #[.int .i64 ba, .int .i64 bd, .slice A2 bm c2] 24))).kept hk3)
      have O1 := hide ((O1.out.alloc (.cells #[.int .i64 ba, .int .i64 bd, .slice A2 bm c2] 24)).kept hk3)
      have O2 := hide ((O2.out.alloc (.cells #[.int .i64 ba, .int .i64 bd, .slice A2 bm c2] 24)).kept hk3)
      have K5 := hide ((K4.out.alloc K4.out.size (.cells #[.int .i64 ba, .int .i64 bd, .slice A2 bm c2] 24)).trans (hk3.mono (by have := K4.out.size; simp; omega)))
      have n15 := B15.out.lt
      have O3 : Hid (Own w5 (w4.heap.size + 1) 1 (.slice A3 bm c3) bm (bytesV bg)) := by
        have h9 := ho3
        rw [World.size_alloc] at h9
        exact h9
      clear hk3 ho3
      obtain ⟨X, hX⟩ : ∃ X, X = w5.alloc (.cells #[.int .i64 ba, .int .i64 bd, .slice A3 bm c3] 24) := ⟨_, rfl⟩
      have hkX : Kept w5 X := by rw [hX]; exact (Below.refl _ _).alloc (Nat.le_refl _) _
      have B17 : Hid (PBox X w5.heap.size (.int .i64 ba) (.int .i64 bd) (.slice A3 bm c3)) := by rw [hX]; exact PBox.new _ _ _ _ _ _ rfl
      replace B13 := hide (B13.out.kept hkX)
      replace B15 := hide (B15.out.kept hkX)
      replace O1 := hide (O1.out.kept hkX)
      replace O2 := hide (O2.out.kept hkX)
      replace O3 := hide (O3.out.kept hkX)
      have KX := hide (K5.out.trans (hkX.mono K5.out.size))
      have n17 := B17.out.lt
      go_upto_region 12 with fail
      rw [← hX]
      clear hX hkX
      obtain ⟨p0, p1, p2, p3, p4, p5⟩ := B13.out
      have pz := B13.out.lt
      obtain ⟨q0, q1, q2, q3, q4, q5⟩ := B15.out
      have qz := B15.out.lt
      obtain ⟨r0, r1, r2, r3, r4, r5⟩ := B17.out
      have rz := B17.out.lt
      go_wp2_with fail
      refine (held_puts ba bd bm bg Lb.out.1 Lb.out.2 A1 A2 A3 c1 c2 c3 _ _ _ X O1.out O2.out O3.out (fun k hk => by have := LT1.out k hk; omega) (fun k hk => by have := LT1.out k hk; omega) (by first | exact KX.out.size | omega)).mono ?_
      rintro e Y ⟨rfl, hbY, hfr⟩
      clear p0 p1 p2 p3 p4 p5 pz q0 q1 q2 q3 q4 q5 qz r0 r1 r2 r3 r4 r5 rz
      have KY := hide (KX.out.trans hbY)
      have hne : ∀ b, w3.heap.size ≤ b → some b ≠ (Value.slice A1 bm c1).ownBlock := fun b hb e => by have := LT1.out b e.symm; omega
      replace B13 := hide (B13.out.far hfr (hne _ (Nat.le_refl _)))
      replace B15 := hide (B15.out.far hfr (hne _ (by omega)))
      replace B17 := hide (B17.out.far hfr (hne _ (by omega)))
      obtain ⟨N13, hN13⟩ : ∃ N, N = w3.heap.size := ⟨_, rfl⟩
      obtain ⟨N15, hN15⟩ : ∃ N, N = w4.heap.size := ⟨_, rfl⟩
      obtain ⟨N17, hN17⟩ : ∃ N, N = w5.heap.size := ⟨_, rfl⟩
      have ge13 : w2.heap.size ≤ N13 := by rw [hN13]; exact K3.out.size
      have lt35 : N13 < N15 := by omega
      have lt57 : N15 < N17 := by omega
      have lt7Y : N17 < Y.heap.size := by rw [hN17]; exact B17.out.lt
      rw [← hN13] at B13
      rw [← hN15] at B15
      rw [← hN17] at B17
      clear hbY hfr hne O1 O2 O3 LT1 K3 K4 K5 KX n13 n15 n17
      go_upto_region 14 with fail
      rw [← hN13, ← hN15, ← hN17]
      clear hN13 hN15 hN17

      go_wp2_with fail
      refine (Cz.out _ KY.out).mono ?_
      rintro e w6a ⟨A1, c1, rfl, ho1, hk1⟩
      have O1 := hide ho1
      have LT1 : Hid (∀ k, (Value.slice A1 zm c1).ownBlock = some k → k < w6a.heap.size) := fun k hk => (ho1.lt k hk).2
      replace B13 := hide (B13.out.kept hk1)
      replace B15 := hide (B15.out.kept hk1)
      replace B17 := hide (B17.out.kept hk1)
      have Kw6a := hide (KY.out.trans (hk1.mono KY.out.size))
      have sw6a := hk1.size
      clear hk1 ho1
      obtain ⟨p0, p1, p2, p3, p4, p5⟩ := B13.out
      have pz := B13.out.lt
      go_wp2_with fail
      obtain ⟨Z6a, hZ6a⟩ : ∃ Z, Z = ((w6a.setCell ⟨N13, 0, none⟩ (.int .i64 za)).setCell ⟨N13, 1, none⟩ (.int .i64 zd)).setCell ⟨N13, 2, none⟩ (.slice A1 zm c1) := ⟨_, rfl⟩
      replace B13 : Hid (PBox Z6a N13 (.int .i64 za) (.int .i64 zd) (.slice A1 zm c1)) := by rw [hZ6a]; exact B13.out.stored _ _ _
      replace B15 := hide (show PBox Z6a N15 _ _ _ by rw [hZ6a]; exact B15.out.beside (by omega) _ _ _)
      replace B17 := hide (show PBox Z6a N17 _ _ _ by rw [hZ6a]; exact B17.out.beside (by omega) _ _ _)
      replace O1 : Hid (Own Z6a Y.heap.size 1 (.slice A1 zm c1) zm (bytesV zg)) := by rw [hZ6a]; exact O1.out.beside (fun k hk => by have := (O1.out.lt k hk).1; omega) _ _ _
      have KZ6a : Hid (Kept w2 Z6a) := by rw [hZ6a]; exact Below.store3 Kw6a.out (by omega) _ _ _
      have zZ6a : w6a.heap.size ≤ Z6a.heap.size := by rw [hZ6a]; exact Nat.le_of_eq (size_store3 _ _ _ _ _).symm
      rw [← hZ6a]
      clear p0 p1 p2 p3 p4 p5 pz hZ6a
      refine (Cz.out _ KZ6a.out).mono ?_
      rintro e w7a ⟨A2, c2, rfl, ho2, hk2⟩
      have O2 := hide ho2
      replace O1 := hide (O1.out.kept hk2)
      replace B13 := hide (B13.out.kept hk2)
      replace B15 := hide (B15.out.kept hk2)
      replace B17 := hide (B17.out.kept hk2)
      have Kw7a := hide (KZ6a.out.trans (hk2.mono KZ6a.out.size))
      have sw7a := hk2.size
      clear hk2 ho2
      obtain ⟨p0, p1, p2, p3, p4, p5⟩ := B15.out
      have pz := B15.out.lt
      go_wp2_with fail
      obtain ⟨Z7a, hZ7a⟩ : ∃ Z, Z = ((w7a.setCell ⟨N15, 0, none⟩ (.int .i64 za)).setCell ⟨N15, 1, none⟩ (.int .i64 zd)).setCell ⟨N15, 2, none⟩ (.slice A2 zm c2) := ⟨_, rfl⟩
      replace B15 : Hid (PBox Z7a N15 (.int .i64 za) (.int .i64 zd) (.slice A2 zm c2)) := by rw [hZ7a]; exact B15.out.stored _ _ _
      replace B13 := hide (show PBox Z7a N13 _ _ _ by rw [hZ7a]; exact B13.out.beside (by omega) _ _ _)
      replace B17 := hide (show PBox Z7a N17 _ _ _ by rw [hZ7a]; exact B17.out.beside (by omega) _ _ _)
      replace O1 : Hid (Own Z7a Y.heap.size 1 (.slice A1 zm c1) zm (bytesV zg)) := by rw [hZ7a]; exact O1.out.beside (fun k hk => by have := (O1.out.lt k hk).1; omega) _ _ _
      replace O2 : Hid (Own Z7a Z6a.heap.size 1 (.slice A2 zm c2) zm (bytesV zg)) := by rw [hZ7a]; exact O2.out.beside (fun k hk => by have := (O2.out.lt k hk).1; omega) _ _ _
      have KZ7a : Hid (Kept w2 Z7a) := by rw [hZ7a]; exact Below.store3 Kw7a.out (by omega) _ _ _
      have zZ7a : w7a.heap.size ≤ Z7a.heap.size := by rw [hZ7a]; exact Nat.le_of_eq (size_store3 _ _ _ _ _).symm
      rw [← hZ7a]
      clear p0 p1 p2 p3 p4 p5 pz hZ7a
      refine (Rz.out _ KZ7a.out).mono ?_
      rintro e w8a ⟨A3, c3, rfl, ho3, hk3⟩
      have O3 := hide ho3
      replace O1 := hide (O1.out.kept hk3)
      replace O2 := hide (O2.out.kept hk3)
      replace B13 := hide (B13.out.kept hk3)
      replace B15 := hide (B15.out.kept hk3)
      replace B17 := hide (B17.out.kept hk3)
      have Kw8a := hide (KZ7a.out.trans (hk3.mono KZ7a.out.size))
      have sw8a := hk3.size
      clear hk3 ho3
      obtain ⟨p0, p1, p2, p3, p4, p5⟩ := B17.out
      have pz := B17.out.lt
      go_upto_region 17 with fail
      obtain ⟨Xa, hXa⟩ : ∃ Z, Z = ((w8a.setCell ⟨N17, 0, none⟩ (.int .i64 za)).setCell ⟨N17, 1, none⟩ (.int .i64 zd)).setCell ⟨N17, 2, none⟩ (.slice A3 zm c3) := ⟨_, rfl⟩
      replace B17 : Hid (PBox Xa N17 (.int .i64 za) (.int .i64 zd) (.slice A3 zm c3)) := by rw [hXa]; exact B17.out.stored _ _ _
      replace B13 := hide (show PBox Xa N13 _ _ _ by rw [hXa]; exact B13.out.beside (by omega) _ _ _)
      replace B15 := hide (show PBox Xa N15 _ _ _ by rw [hXa]; exact B15.out.beside (by omega) _ _ _)
      replace O1 : Hid (Own Xa Y.heap.size 1 (.slice A1 zm c1) zm (bytesV zg)) := by rw [hXa]; exact O1.out.beside (fun k hk => by have := (O1.out.lt k hk).1; omega) _ _ _
      replace O2 : Hid (Own Xa Z6a.heap.size 1 (.slice A2 zm c2) zm (bytesV zg)) := by rw [hXa]; exact O2.out.beside (fun k hk => by have := (O2.out.lt k hk).1; omega) _ _ _
      replace O3 : Hid (Own Xa Z7a.heap.size 1 (.slice A3 zm c3) zm (bytesV zg)) := by rw [hXa]; exact O3.out.beside (fun k hk => by have := (O3.out.lt k hk).1; omega) _ _ _
      have KXa : Hid (Kept w2 Xa) := by rw [hXa]; exact Below.store3 Kw8a.out (by omega) _ _ _
      have zXa : w8a.heap.size ≤ Xa.heap.size := by rw [hXa]; exact Nat.le_of_eq (size_store3 _ _ _ _ _).symm
      rw [← hXa]
      clear p0 p1 p2 p3 p4 p5 pz hXa
      obtain ⟨p0, p1, p2, p3, p4, p5⟩ := B13.out
      have pz := B13.out.lt
      obtain ⟨q0, q1, q2, q3, q4, q5⟩ := B15.out
      have qz := B15.out.lt
      obtain ⟨r0, r1, r2, r3, r4, r5⟩ := B17.out
      have rz := B17.out.lt
      go_wp2_with fail
      refine (held_puts za zd zm zg Lz.out.1 Lz.out.2 A1 A2 A3 c1 c2 c3 _ _ _ Xa O1.out O2.out O3.out (fun k hk => by have := LT1.out k hk; omega) (fun k hk => by have := LT1.out k hk; omega) (by omega)).mono ?_
      rintro e Y2 ⟨rfl, hbY, hfr⟩
      clear p0 p1 p2 p3 p4 p5 pz q0 q1 q2 q3 q4 q5 qz r0 r1 r2 r3 r4 r5 rz
      have hne : ∀ b, b ≤ N17 → some b ≠ (Value.slice A1 zm c1).ownBlock := fun b hb e => by have := (O1.out.lt b e.symm).1; omega
      replace B13 := hide (B13.out.far hfr (hne _ (by omega)))
      replace B15 := hide (B15.out.far hfr (hne _ (by omega)))
      replace B17 := hide (B17.out.far hfr (hne _ (by omega)))
      have KY2 := hide (KXa.out.trans (hbY.mono KY.out.size))
      have lt7Y2 : N17 < Y2.heap.size := B17.out.lt
      clear hbY hfr hne O1 O2 O3 LT1

      go_wp2_with fail
      go_loopg [19] L (fun gh ix wr => ∃ i : Nat, i + gh = L ∧ ix = .int .i64 i ∧ CropInv w2 N13 N15 N17 wr)
      case atStart => exact ⟨0, by omega, rfl, ⟨_, _, _, B13.out⟩, ⟨_, _, _, B15.out⟩, ⟨_, _, _, B17.out⟩, KY2.out⟩
      case round =>
        clear B13 B15 B17 KY2 lt7Y2 KY lt7Y Lb Cb Rb Lz Cz Rz
        obtain ⟨i, hig, rfl, ⟨x1, y1, z1, hb13⟩, ⟨x2, y2, z2, hb15⟩, ⟨x3, y3, z3, hb17⟩, hkr⟩ := hrel
        have Kwr := hide hkr
        have B13 := hide hb13
        have B15 := hide hb15
        have B17 := hide hb17
        have lt7r := hb17.lt
        clear hb13 hb15 hb17 hkr
        cases gk with
        | zero =>
          have hge : ¬ (i : Int) < L := by omega
          obtain ⟨b, off, rfl, hc7⟩ := (LA.out.move Kwr.out).last
          rw [← HLD.out] at hc7
          clear hig
          go_wp2_with (go_at_call 19; refine (awake_any _).mono ?_; rintro e w9 ⟨rfl, hk9⟩)
          go_ret
          exact ⟨rfl, (K2.out.trans (Kwr.out.mono K2.out.size)).trans (hk9.mono (Nat.le_trans K2.out.size Kwr.out.size))⟩
        | succ gh =>
          have hlti : (i : Int) < L := by omega
          have hltj : (i : Int) < (L : Int) + 1 := by omega
          obtain ⟨p, hpk⟩ : ∃ p, ps[i]? = some p := ⟨_, List.getElem?_eq_getElem (by have := HLD.out; omega)⟩
          obtain ⟨b, off, ⟨EA, ec⟩, hOA, he, -, -, -, -, -⟩ := LA.out.pic hpk
          obtain ⟨lb, loff, A', n, c', rfl, hlb, l0, l1, l2, hpl⟩ := HP.out.at_ hpk
          obtain rfl : p.g.length = n := hpl.len
          have hb2 : b < w2.heap.size := LA.out.lt b off hOA
          subst hOA
          have OC : Hid (∀ W, Kept w2 W → (W.cell? ⟨b, off + i * 3, none⟩ = some (.int .i64 p.a) ∧ W.cell? ⟨b, off + i * 3 + 1, none⟩ = some (.int .i64 p.d) ∧ W.cell? ⟨b, off + i * 3 + 2, none⟩ = some (.slice EA p.g.length ec)) ∧ PicAt W p EA p.g.length ec ∧ ∃ base, Own W base 1 (.slice EA (p.g.length + 1) ec) (p.g.length + 1) (bytesV (p.g ++ [77]))) := by
            intro W hW
            obtain ⟨b', off', e', hA', he', o0, o1, o2, hpa, how⟩ := (LA.out.move hW).pic hpk
            rw [he] at he'
            injection he' with he'
            subst he'
            injection hA' with hA'
            injection hA' with e1 e2
            subst e1; subst e2
            exact ⟨⟨o0, o1, o2⟩, hpa, how⟩
          have hlb2 : lb < w2.heap.size := Nat.lt_of_lt_of_le hlb K2.out.size
          have LC : Hid (∀ W, Kept w2 W → (W.cell? ⟨lb, loff + i * 3, none⟩ = some (.int .i64 p.a) ∧ W.cell? ⟨lb, loff + i * 3 + 1, none⟩ = some (.int .i64 p.d) ∧ W.cell? ⟨lb, loff + i * 3 + 2, none⟩ = some (.slice A' p.g.length c')) ∧ PicAt W p A' p.g.length c') := by
            intro W hW
            have hk : Kept w W := K2.out.trans (hW.mono K2.out.size)
            exact ⟨⟨(hk.cells _ _ hlb).trans l0, (hk.cells _ _ hlb).trans l1, (hk.cells _ _ hlb).trans l2⟩, hpl.kept hk⟩
          have HBP := hide (HBND.out p (List.mem_of_getElem? hpk))
          have ne1 : ¬ b = N13 := by omega
          have ne2 : ¬ b = N15 := by omega
          have ne3 : ¬ b = N17 := by omega
          have ne4 : ¬ lb = N13 := by omega
          have ne5 : ¬ lb = N15 := by omega
          have ne6 : ¬ lb = N17 := by omega
          have me1 : ¬ N13 = b := by omega
          have me2 : ¬ N15 = b := by omega
          have me3 : ¬ N17 = b := by omega
          have me4 : ¬ N13 = lb := by omega
          have me5 : ¬ N15 = lb := by omega
          have me6 : ¬ N17 = lb := by omega
          clear he l0 l1 l2 hpl hpk hlb
          obtain ⟨yE, hyE⟩ : ∃ y, y = cropE p c f s t := ⟨_, rfl⟩
          obtain ⟨ya, hya⟩ : ∃ y, y = outA (cropE p c f s t) (cropP p c f s t) := ⟨_, rfl⟩
          obtain ⟨yd, hyd⟩ : ∃ y, y = outD (cropE p c f s t) (cropP p c f s t) := ⟨_, rfl⟩
          obtain ⟨yg, hyg⟩ : ∃ y, y = outG (cropE p c f s t) (cropP p c f s t) := ⟨_, rfl⟩
          obtain ⟨ym, hym⟩ : ∃ y, y = yg.length := ⟨_, rfl⟩
          have Cy : Hid (∀ W, Kept w2 W → Calls Try.prog 33 #[.agg #[.int .i64 p.a, .int .i64 p.d, .slice EA p.g.length ec], .int .i64 c, .int .i64 f, .int .i64 s, .int .i64 t] W (Puts ya yd ym yg yE W)) := fun W hW => by
            rw [hya, hyd, hym, hyg, hyE]
            exact (crop_any p EA p.g.length ec c f s t W (OC.out W hW).2.1 HST.out.1 HST.out.2.1 HST.out.2.2.1 HST.out.2.2.2).mono fun _ _ h => h.puts
          have Ry : Hid (∀ W, Kept w2 W → Calls Try.prog 34 #[.agg #[.int .i64 p.a, .int .i64 p.d, .slice A' p.g.length c'], .int .i64 c, .int .i64 f, .int .i64 s, .int .i64 t] W (Puts ya yd ym yg yE W)) := fun W hW => by
            rw [hya, hyd, hym, hyg, hyE]
            exact (rcrop_any p A' p.g.length c' c f s t W (LC.out W hW).2 HST.out.1 HST.out.2.1 HST.out.2.2.1 HST.out.2.2.2).mono fun _ _ h => h.puts
          have Ly : Hid (yg.length = ym ∧ ym ≤ 4194304) := ⟨hym.symm, by rw [hym, hyg]; exact outG_le _ _ (crop_len p c f s t)⟩
          clear hyE hya hyd hyg hym
          obtain ⟨o0, o1, o2⟩ := (OC.out _ Kwr.out).1
          go_wp2_with fail
          refine (Cy.out _ Kwr.out).mono ?_
          rintro e w6b ⟨A1, c1, rfl, ho1, hk1⟩
          clear o0 o1 o2
          have O1 := hide ho1
          have LT1 : Hid (∀ k, (Value.slice A1 ym c1).ownBlock = some k → k < w6b.heap.size) := fun k hk => (ho1.lt k hk).2
          replace B13 := hide (B13.out.kept hk1)
          replace B15 := hide (B15.out.kept hk1)
          replace B17 := hide (B17.out.kept hk1)
          have Kw6b := hide (Kwr.out.trans (hk1.mono Kwr.out.size))
          have sw6b := hk1.size
          clear hk1 ho1
          obtain ⟨p0, p1, p2, p3, p4, p5⟩ := B13.out
          have pz := B13.out.lt
          obtain ⟨o0, o1, o2⟩ := (OC.out _ Kw6b.out).1
          go_wp2_with fail
          obtain ⟨Z6b, hZ6b⟩ : ∃ Z, Z = ((w6b.setCell ⟨N13, 0, none⟩ (.int .i64 ya)).setCell ⟨N13, 1, none⟩ (.int .i64 yd)).setCell ⟨N13, 2, none⟩ (.slice A1 ym c1) := ⟨_, rfl⟩
          replace B13 : Hid (PBox Z6b N13 (.int .i64 ya) (.int .i64 yd) (.slice A1 ym c1)) := by rw [hZ6b]; exact B13.out.stored _ _ _
          replace B15 := hide (show PBox Z6b N15 _ _ _ by rw [hZ6b]; exact B15.out.beside (by omega) _ _ _)
          replace B17 := hide (show PBox Z6b N17 _ _ _ by rw [hZ6b]; exact B17.out.beside (by omega) _ _ _)
          replace O1 : Hid (Own Z6b wr.heap.size 1 (.slice A1 ym c1) ym (bytesV yg)) := by rw [hZ6b]; exact O1.out.beside (fun k hk => by have := (O1.out.lt k hk).1; omega) _ _ _
          have KZ6b : Hid (Kept w2 Z6b) := by rw [hZ6b]; exact Below.store3 Kw6b.out (by omega) _ _ _
          have zZ6b : w6b.heap.size ≤ Z6b.heap.size := by rw [hZ6b]; exact Nat.le_of_eq (size_store3 _ _ _ _ _).symm
          rw [← hZ6b]
          clear p0 p1 p2 p3 p4 p5 pz hZ6b
          refine (Cy.out _ KZ6b.out).mono ?_
          rintro e w7b ⟨A2, c2, rfl, ho2, hk2⟩
          clear o0 o1 o2
          have O2 := hide ho2
          replace O1 := hide (O1.out.kept hk2)
          replace B13 := hide (B13.out.kept hk2)
          replace B15 := hide (B15.out.kept hk2)
          replace B17 := hide (B17.out.kept hk2)
          have Kw7b := hide (KZ6b.out.trans (hk2.mono KZ6b.out.size))
          have sw7b := hk2.size
          clear hk2 ho2
          obtain ⟨p0, p1, p2, p3, p4, p5⟩ := B15.out
          have pz := B15.out.lt
          obtain ⟨o0, o1, o2⟩ := (LC.out _ Kw7b.out).1
          go_wp2_with fail
          obtain ⟨Z7b, hZ7b⟩ : ∃ Z, Z = ((w7b.setCell ⟨N15, 0, none⟩ (.int .i64 ya)).setCell ⟨N15, 1, none⟩ (.int .i64 yd)).setCell ⟨N15, 2, none⟩ (.slice A2 ym c2) := ⟨_, rfl⟩
          replace B15 : Hid (PBox Z7b N15 (.int .i64 ya) (.int .i64 yd) (.slice A2 ym c2)) := by rw [hZ7b]; exact B15.out.stored _ _ _
          replace B13 := hide (show PBox Z7b N13 _ _ _ by rw [hZ7b]; exact B13.out.beside (by omega) _ _ _)
          replace B17 := hide (show PBox Z7b N17 _ _ _ by rw [hZ7b]; exact B17.out.beside (by omega) _ _ _)
          replace O1 : Hid (Own Z7b wr.heap.size 1 (.slice A1 ym c1) ym (bytesV yg)) := by rw [hZ7b]; exact O1.out.beside (fun k hk => by have := (O1.out.lt k hk).1; omega) _ _ _
          replace O2 : Hid (Own Z7b Z6b.heap.size 1 (.slice A2 ym c2) ym (bytesV yg)) := by rw [hZ7b]; exact O2.out.beside (fun k hk => by have := (O2.out.lt k hk).1; omega) _ _ _
          have KZ7b : Hid (Kept w2 Z7b) := by rw [hZ7b]; exact Below.store3 Kw7b.out (by omega) _ _ _
          have zZ7b : w7b.heap.size ≤ Z7b.heap.size := by rw [hZ7b]; exact Nat.le_of_eq (size_store3 _ _ _ _ _).symm
          rw [← hZ7b]
          clear p0 p1 p2 p3 p4 p5 pz hZ7b
          refine (Ry.out _ KZ7b.out).mono ?_
          rintro e w8b ⟨A3, c3, rfl, ho3, hk3⟩
          clear o0 o1 o2
          have O3 := hide ho3
          replace O1 := hide (O1.out.kept hk3)
          replace O2 := hide (O2.out.kept hk3)
          replace B13 := hide (B13.out.kept hk3)
          replace B15 := hide (B15.out.kept hk3)
          replace B17 := hide (B17.out.kept hk3)
          have Kw8b := hide (KZ7b.out.trans (hk3.mono KZ7b.out.size))
          have sw8b := hk3.size
          clear hk3 ho3
          obtain ⟨p0, p1, p2, p3, p4, p5⟩ := B17.out
          have pz := B17.out.lt
          go_upto_region 25 with fail
          obtain ⟨Xb, hXb⟩ : ∃ Z, Z = ((w8b.setCell ⟨N17, 0, none⟩ (.int .i64 ya)).setCell ⟨N17, 1, none⟩ (.int .i64 yd)).setCell ⟨N17, 2, none⟩ (.slice A3 ym c3) := ⟨_, rfl⟩
          replace B17 : Hid (PBox Xb N17 (.int .i64 ya) (.int .i64 yd) (.slice A3 ym c3)) := by rw [hXb]; exact B17.out.stored _ _ _
          replace B13 := hide (show PBox Xb N13 _ _ _ by rw [hXb]; exact B13.out.beside (by omega) _ _ _)
          replace B15 := hide (show PBox Xb N15 _ _ _ by rw [hXb]; exact B15.out.beside (by omega) _ _ _)
          replace O1 : Hid (Own Xb wr.heap.size 1 (.slice A1 ym c1) ym (bytesV yg)) := by rw [hXb]; exact O1.out.beside (fun k hk => by have := (O1.out.lt k hk).1; omega) _ _ _
          replace O2 : Hid (Own Xb Z6b.heap.size 1 (.slice A2 ym c2) ym (bytesV yg)) := by rw [hXb]; exact O2.out.beside (fun k hk => by have := (O2.out.lt k hk).1; omega) _ _ _
          replace O3 : Hid (Own Xb Z7b.heap.size 1 (.slice A3 ym c3) ym (bytesV yg)) := by rw [hXb]; exact O3.out.beside (fun k hk => by have := (O3.out.lt k hk).1; omega) _ _ _
          have KXb : Hid (Kept w2 Xb) := by rw [hXb]; exact Below.store3 Kw8b.out (by omega) _ _ _
          have zXb : w8b.heap.size ≤ Xb.heap.size := by rw [hXb]; exact Nat.le_of_eq (size_store3 _ _ _ _ _).symm
          rw [← hXb]
          clear p0 p1 p2 p3 p4 p5 pz hXb
          have SH : Hid (∀ Z, PBox Z N13 (.int .i64 ya) (.int .i64 yd) (.slice A1 ym c1) → PBox Z N15 (.int .i64 ya) (.int .i64 yd) (.slice A2 ym c2) → PBox Z N17 (.int .i64 ya) (.int .i64 yd) (.slice A3 ym c3) → Kept w2 Z → (fun X => X.cell? ⟨N13, 0, none⟩ = some (.int .i64 ya) ∧ X.cell? ⟨N13, 1, none⟩ = some (.int .i64 yd) ∧ X.cell? ⟨N13, 2, none⟩ = some (.slice A1 ym c1) ∧ X.cell? ⟨N15, 0, none⟩ = some (.int .i64 ya) ∧ X.cell? ⟨N15, 1, none⟩ = some (.int .i64 yd) ∧ X.cell? ⟨N15, 2, none⟩ = some (.slice A2 ym c2) ∧ X.cell? ⟨N17, 0, none⟩ = some (.int .i64 ya) ∧ X.cell? ⟨N17, 1, none⟩ = some (.int .i64 yd) ∧ X.cell? ⟨N17, 2, none⟩ = some (.slice A3 ym c3) ∧ X.cell? ⟨b, off + i * 3, none⟩ = some (.int .i64 p.a) ∧ X.cell? ⟨b, off + i * 3 + 1, none⟩ = some (.int .i64 p.d) ∧ X.cell? ⟨b, off + i * 3 + 2, none⟩ = some (.slice EA p.g.length ec) ∧ X.cell? ⟨lb, loff + i * 3, none⟩ = some (.int .i64 p.a) ∧ X.cell? ⟨lb, loff + i * 3 + 1, none⟩ = some (.int .i64 p.d) ∧ X.cell? ⟨lb, loff + i * 3 + 2, none⟩ = some (.slice A' p.g.length c')) Z) := fun Z h1 h2 h3 hk => ⟨h1.c0, h1.c1, h1.c2, h2.c0, h2.c1, h2.c2, h3.c0, h3.c1, h3.c2, (OC.out Z hk).1.1, (OC.out Z hk).1.2.1, (OC.out Z hk).1.2.2, (LC.out Z hk).1.1, (LC.out Z hk).1.2.1, (LC.out Z hk).1.2.2⟩
          have HS0 : Hid ((fun X => X.cell? ⟨N13, 0, none⟩ = some (.int .i64 ya) ∧ X.cell? ⟨N13, 1, none⟩ = some (.int .i64 yd) ∧ X.cell? ⟨N13, 2, none⟩ = some (.slice A1 ym c1) ∧ X.cell? ⟨N15, 0, none⟩ = some (.int .i64 ya) ∧ X.cell? ⟨N15, 1, none⟩ = some (.int .i64 yd) ∧ X.cell? ⟨N15, 2, none⟩ = some (.slice A2 ym c2) ∧ X.cell? ⟨N17, 0, none⟩ = some (.int .i64 ya) ∧ X.cell? ⟨N17, 1, none⟩ = some (.int .i64 yd) ∧ X.cell? ⟨N17, 2, none⟩ = some (.slice A3 ym c3) ∧ X.cell? ⟨b, off + i * 3, none⟩ = some (.int .i64 p.a) ∧ X.cell? ⟨b, off + i * 3 + 1, none⟩ = some (.int .i64 p.d) ∧ X.cell? ⟨b, off + i * 3 + 2, none⟩ = some (.slice EA p.g.length ec) ∧ X.cell? ⟨lb, loff + i * 3, none⟩ = some (.int .i64 p.a) ∧ X.cell? ⟨lb, loff + i * 3 + 1, none⟩ = some (.int .i64 p.d) ∧ X.cell? ⟨lb, loff + i * 3 + 2, none⟩ = some (.slice A' p.g.length c')) Xb.drew) := SH.out Xb B13.out B15.out B17.out KXb.out
          dsimp only at SH HS0
          clear ne1 ne2 ne3 ne4 ne5 ne6 me1 me2 me3 me4 me5 me6
          refine wp_region_L (fun X => X.cell? ⟨N13, 0, none⟩ = some (.int .i64 ya) ∧ X.cell? ⟨N13, 1, none⟩ = some (.int .i64 yd) ∧ X.cell? ⟨N13, 2, none⟩ = some (.slice A1 ym c1) ∧ X.cell? ⟨N15, 0, none⟩ = some (.int .i64 ya) ∧ X.cell? ⟨N15, 1, none⟩ = some (.int .i64 yd) ∧ X.cell? ⟨N15, 2, none⟩ = some (.slice A2 ym c2) ∧ X.cell? ⟨N17, 0, none⟩ = some (.int .i64 ya) ∧ X.cell? ⟨N17, 1, none⟩ = some (.int .i64 yd) ∧ X.cell? ⟨N17, 2, none⟩ = some (.slice A3 ym c3) ∧ X.cell? ⟨b, off + i * 3, none⟩ = some (.int .i64 p.a) ∧ X.cell? ⟨b, off + i * 3 + 1, none⟩ = some (.int .i64 p.d) ∧ X.cell? ⟨b, off + i * 3 + 2, none⟩ = some (.slice EA p.g.length ec) ∧ X.cell? ⟨lb, loff + i * 3, none⟩ = some (.int .i64 p.a) ∧ X.cell? ⟨lb, loff + i * 3 + 1, none⟩ = some (.int .i64 p.d) ∧ X.cell? ⟨lb, loff + i * 3 + 2, none⟩ = some (.slice A' p.g.length c')) 999 (by kernel_rfl) ?_ (fun hHeld => ?_)
          · first | exact HS0.out | assumption
          refine wpAnyL_take (i := 0) (v := ?_) (some 156) rfl rfl (by kernel_rfl) (by kernel_rfl) (by kernel_rfl) (by kernel_rfl) (fun _ _ _ h => h) (Or.inl ⟨by rfl, ?_⟩) (by assumption) ?_
          rotate_left
          · intro w hSw; (try dsimp only at hSw); go_simp; (try with_reducible rfl)
          try simp only [Act.put, List.setIfInBounds_toArray, List.set_cons_zero, List.set_cons_succ]
          refine wpAnyL_take (i := 1) (v := ?_) (some 157) rfl rfl (by kernel_rfl) (by kernel_rfl) (by kernel_rfl) (by kernel_rfl) (fun _ _ _ h => h) (Or.inl ⟨by rfl, ?_⟩) (by assumption) ?_
          rotate_left
          · intro w hSw; (try dsimp only at hSw); go_simp; (try with_reducible rfl)
          try simp only [Act.put, List.setIfInBounds_toArray, List.set_cons_zero, List.set_cons_succ]
          refine wpAnyL_take (i := 2) (v := Value.bool false) (some 158) rfl rfl (by kernel_rfl) (by kernel_rfl) (by kernel_rfl) (by kernel_rfl) (fun _ _ _ h => h) (Or.inl ⟨by rfl, ?_⟩) (by assumption) ?_
          · intro w hSw; (try dsimp only at hSw); go_simp
          try simp only [Act.put, List.setIfInBounds_toArray, List.set_cons_zero, List.set_cons_succ]
          refine wpAnyL_take (i := 3) (v := Value.bool false) (some 159) rfl rfl (by kernel_rfl) (by kernel_rfl) (by kernel_rfl) (by kernel_rfl) (fun _ _ _ h => h) (Or.inl ⟨by rfl, ?_⟩) (by assumption) ?_
          · intro w hSw; (try dsimp only at hSw); go_simp
          try simp only [Act.put, List.setIfInBounds_toArray, List.set_cons_zero, List.set_cons_succ]
          refine wpAnyL_take (i := 4) (v := ?_) (some 160) rfl rfl (by kernel_rfl) (by kernel_rfl) (by kernel_rfl) (by kernel_rfl) (fun _ _ _ h => h) (Or.inl ⟨by rfl, ?_⟩) (by assumption) ?_
          rotate_left
          · intro w hSw; (try dsimp only at hSw); go_simp; (try with_reducible rfl)
          try simp only [Act.put, List.setIfInBounds_toArray, List.set_cons_zero, List.set_cons_succ]
          refine wpAnyL_take (i := 5) (v := ?_) (some 161) rfl rfl (by kernel_rfl) (by kernel_rfl) (by kernel_rfl) (by kernel_rfl) (fun _ _ _ h => h) (Or.inl ⟨by rfl, ?_⟩) (by assumption) ?_
          rotate_left
          · intro w hSw; (try dsimp only at hSw); go_simp; (try with_reducible rfl)
          try simp only [Act.put, List.setIfInBounds_toArray, List.set_cons_zero, List.set_cons_succ]
          refine wpAnyL_take (i := 6) (v := Value.bool false) (some 162) rfl rfl (by kernel_rfl) (by kernel_rfl) (by kernel_rfl) (by kernel_rfl) (fun _ _ _ h => h) (Or.inl ⟨by rfl, ?_⟩) (by assumption) ?_
          · intro w hSw; (try dsimp only at hSw); go_simp
          try simp only [Act.put, List.setIfInBounds_toArray, List.set_cons_zero, List.set_cons_succ]
          refine wpAnyL_take (i := 7) (v := Value.bool false) (some 163) rfl rfl (by kernel_rfl) (by kernel_rfl) (by kernel_rfl) (by kernel_rfl) (fun _ _ _ h => h) (Or.inl ⟨by rfl, ?_⟩) (by assumption) ?_
          · intro w hSw; (try dsimp only at hSw); go_simp
          try simp only [Act.put, List.setIfInBounds_toArray, List.set_cons_zero, List.set_cons_succ]
          refine wpAnyL_take (i := 8) (v := Value.bool false) (some 164) rfl rfl (by kernel_rfl) (by kernel_rfl) (by kernel_rfl) (by kernel_rfl) (fun _ _ _ h => h) (Or.inl ⟨by rfl, ?_⟩) (by assumption) ?_
          · intro w hSw; (try dsimp only at hSw); go_simp
          try simp only [Act.put, List.setIfInBounds_toArray, List.set_cons_zero, List.set_cons_succ]
          refine wpAnyL_take (i := 9) (v := ?_) (some 165) rfl rfl (by kernel_rfl) (by kernel_rfl) (by kernel_rfl) (by kernel_rfl) (fun _ _ _ h => h) (Or.inl ⟨by rfl, ?_⟩) (by assumption) ?_
          rotate_left
          · intro w hSw; (try dsimp only at hSw); go_simp; (try with_reducible rfl)
          try simp only [Act.put, List.setIfInBounds_toArray, List.set_cons_zero, List.set_cons_succ]
          refine wpAnyL_take (i := 10) (v := ?_) (some 166) rfl rfl (by kernel_rfl) (by kernel_rfl) (by kernel_rfl) (by kernel_rfl) (fun _ _ _ h => h) (Or.inl ⟨by rfl, ?_⟩) (by assumption) ?_
          rotate_left
          · intro w hSw; (try dsimp only at hSw); go_simp; (try with_reducible rfl)
          try simp only [Act.put, List.setIfInBounds_toArray, List.set_cons_zero, List.set_cons_succ]
          refine wpAnyL_take (i := 11) (v := ?_) (some 167) rfl rfl (by kernel_rfl) (by kernel_rfl) (by kernel_rfl) (by kernel_rfl) (fun _ _ _ h => h) (Or.inl ⟨by rfl, ?_⟩) (by assumption) ?_
          rotate_left
          · intro w hSw; (try dsimp only at hSw); go_simp; (try with_reducible rfl)
          try simp only [Act.put, List.setIfInBounds_toArray, List.set_cons_zero, List.set_cons_succ]
          refine wpAnyL_one (i := 12) (by kernel_rfl) rfl (fun K hK => ?_)
          go_simp
          (refine (held_puts ya yd ym yg Ly.out.1 Ly.out.2 A1 A2 A3 c1 c2 c3 _ _ _ Xb.drew (show Own Xb _ _ _ _ _ from O1.out) (show Own Xb _ _ _ _ _ from O2.out) (show Own Xb _ _ _ _ _ from O3.out) (fun k hk => by have := LT1.out k hk; omega) (fun k hk => by have := LT1.out k hk; omega) (by show wr.heap.size ≤ Xb.heap.size; omega)).mono ?_; rintro e Y3 ⟨rfl, hbY, hfr⟩; have hne : (∀ b, b ≤ N17 → some b ≠ (Value.slice A1 ym c1).ownBlock) := (fun b hb e => by have := (O1.out.lt b e.symm).1; omega); have D13 := hide ((B13.out.kept ((Below.refl _ Xb).drew)).far hfr (hne _ (by omega))); have D15 := hide ((B15.out.kept ((Below.refl _ Xb).drew)).far hfr (hne _ (by omega))); have D17 := hide ((B17.out.kept ((Below.refl _ Xb).drew)).far hfr (hne _ (by omega))); have KD := hide ((KXb.out.drew).trans (hbY.mono Kwr.out.size)); have hS3 := SH.out Y3 D13.out D15.out D17.out KD.out; clear hbY hfr hne)
          refine hK.out _ _ ?_ (fun hHeld => ?_)
          · first | exact HS0.out | assumption
          clear hK K
          try simp only [Act.put, List.setIfInBounds_toArray, List.set_cons_zero, List.set_cons_succ]
          refine wpAnyL_take (i := 13) (v := Value.bool false) (some 169) rfl rfl (by kernel_rfl) (by kernel_rfl) (by kernel_rfl) (by kernel_rfl) (fun _ _ _ h => h) (Or.inl ⟨by rfl, ?_⟩) (by assumption) ?_
          · intro w hSw; (try dsimp only at hSw); go_simp
          try simp only [Act.put, List.setIfInBounds_toArray, List.set_cons_zero, List.set_cons_succ]
          refine wpAnyL_take (i := 14) (v := Value.bool false) (some 170) rfl rfl (by kernel_rfl) (by kernel_rfl) (by kernel_rfl) (by kernel_rfl) (fun _ _ _ h => h) (Or.inl ⟨by rfl, ?_⟩) (by assumption) ?_
          · intro w hSw; (try dsimp only at hSw); go_simp
          try simp only [Act.put, List.setIfInBounds_toArray, List.set_cons_zero, List.set_cons_succ]
          refine wpAnyL_take (i := 15) (v := Value.bool false) (some 171) rfl rfl (by kernel_rfl) (by kernel_rfl) (by kernel_rfl) (by kernel_rfl) (fun _ _ _ h => h) (Or.inl ⟨by rfl, ?_⟩) (by assumption) ?_
          · intro w hSw; (try dsimp only at hSw); go_simp
          try simp only [Act.put, List.setIfInBounds_toArray, List.set_cons_zero, List.set_cons_succ]
          refine wpAnyL_take (i := 16) (v := ?_) (some 172) rfl rfl (by kernel_rfl) (by kernel_rfl) (by kernel_rfl) (by kernel_rfl) (fun _ _ _ h => h) (Or.inl ⟨by rfl, ?_⟩) (by assumption) ?_
          rotate_left
          · intro w hSw; (try dsimp only at hSw); go_simp; (try with_reducible rfl)
          try simp only [Act.put, List.setIfInBounds_toArray, List.set_cons_zero, List.set_cons_succ]
          refine wpAnyL_take (i := 17) (v := ?_) (some 173) rfl rfl (by kernel_rfl) (by kernel_rfl) (by kernel_rfl) (by kernel_rfl) (fun _ _ _ h => h) (Or.inl ⟨by rfl, ?_⟩) (by assumption) ?_
          rotate_left
          · intro w hSw; (try dsimp only at hSw); go_simp; (try with_reducible rfl)
          try simp only [Act.put, List.setIfInBounds_toArray, List.set_cons_zero, List.set_cons_succ]
          refine wpAnyL_take (i := 18) (v := ?_) (some 174) rfl rfl (by kernel_rfl) (by kernel_rfl) (by kernel_rfl) (by kernel_rfl) (fun _ _ _ h => h) (Or.inl ⟨by rfl, ?_⟩) (by assumption) ?_
          rotate_left
          · intro w hSw; (try dsimp only at hSw); go_simp; (try with_reducible rfl)
          try simp only [Act.put, List.setIfInBounds_toArray, List.set_cons_zero, List.set_cons_succ]
          refine wpAnyL_take (i := 19) (v := ?_) (some 175) rfl rfl (by kernel_rfl) (by kernel_rfl) (by kernel_rfl) (by kernel_rfl) (fun _ _ _ h => h) (Or.inl ⟨by rfl, ?_⟩) (by assumption) ?_
          rotate_left
          · intro w hSw; (try dsimp only at hSw); go_simp; (try with_reducible rfl)
          try simp only [Act.put, List.setIfInBounds_toArray, List.set_cons_zero, List.set_cons_succ]
          refine wpAnyL_take (i := 20) (v := ?_) (some 176) rfl rfl (by kernel_rfl) (by kernel_rfl) (by kernel_rfl) (by kernel_rfl) (fun _ _ _ h => h) (Or.inl ⟨by rfl, ?_⟩) (by assumption) ?_
          rotate_left
          · intro w hSw; (try dsimp only at hSw); go_simp; (try with_reducible rfl)
          try simp only [Act.put, List.setIfInBounds_toArray, List.set_cons_zero, List.set_cons_succ]
          refine wpAnyL_take (i := 21) (v := ?_) (some 177) rfl rfl (by kernel_rfl) (by kernel_rfl) (by kernel_rfl) (by kernel_rfl) (fun _ _ _ h => h) (Or.inl ⟨by rfl, ?_⟩) (by assumption) ?_
          rotate_left
          · intro w hSw; (try dsimp only at hSw); go_simp; (try with_reducible rfl)
          try simp only [Act.put, List.setIfInBounds_toArray, List.set_cons_zero, List.set_cons_succ]
          refine wpAnyL_take (i := 22) (v := ?_) (some 178) rfl rfl (by kernel_rfl) (by kernel_rfl) (by kernel_rfl) (by kernel_rfl) (fun _ _ _ h => h) (Or.inl ⟨by rfl, ?_⟩) (by assumption) ?_
          rotate_left
          · intro w hSw; (try dsimp only at hSw); go_simp; (try with_reducible rfl)
          try simp only [Act.put, List.setIfInBounds_toArray, List.set_cons_zero, List.set_cons_succ]
          refine wpAnyL_take (i := 23) (v := ?_) (some 179) rfl rfl (by kernel_rfl) (by kernel_rfl) (by kernel_rfl) (by kernel_rfl) (fun _ _ _ h => h) (Or.inl ⟨by rfl, ?_⟩) (by assumption) ?_
          rotate_left
          · intro w hSw; (try dsimp only at hSw); go_simp; (try with_reducible rfl)
          try simp only [Act.put, List.setIfInBounds_toArray, List.set_cons_zero, List.set_cons_succ]
          refine wpAnyL_one (i := 24) (by kernel_rfl) rfl (fun K hK => ?_)
          go_simp
          (refine (kept_any p.a p.d A' EA p.g.length c' ec _ p.g Y3 HBP.out rfl (LC.out Y3 KD.out).2.row (OC.out Y3 KD.out).2.2.choose_spec).mono ?_; rintro e Y4 ⟨rfl, hk4⟩; have E13 := hide (D13.out.kept hk4); have E15 := hide (D15.out.kept hk4); have E17 := hide (D17.out.kept hk4); have KE := hide (KD.out.trans (hk4.mono KD.out.size)); have hS4 := SH.out Y4 E13.out E15.out E17.out KE.out; clear hk4)
          refine hK.out _ _ ?_ (fun hHeld => ?_)
          · first | exact HS0.out | assumption
          clear hK K
          try simp only [Act.put, List.setIfInBounds_toArray, List.set_cons_zero, List.set_cons_succ]
          refine wpAnyL_take (i := 25) (v := Value.bool false) (some 181) rfl rfl (by kernel_rfl) (by kernel_rfl) (by kernel_rfl) (by kernel_rfl) (fun _ _ _ h => h) (Or.inl ⟨by rfl, ?_⟩) (by assumption) ?_
          · intro w hSw; (try dsimp only at hSw); go_simp
          try simp only [Act.put, List.setIfInBounds_toArray, List.set_cons_zero, List.set_cons_succ]
          refine wpAnyL_take (i := 26) (v := Value.bool false) (some 182) rfl rfl (by kernel_rfl) (by kernel_rfl) (by kernel_rfl) (by kernel_rfl) (fun _ _ _ h => h) (Or.inl ⟨by rfl, ?_⟩) (by assumption) ?_
          · intro w hSw; (try dsimp only at hSw); go_simp
          try simp only [Act.put, List.setIfInBounds_toArray, List.set_cons_zero, List.set_cons_succ]
          refine wpAnyL_done (by kernel_rfl) ?_ _
          clear hS4 hS3
          go_wp2_with fail
          go_roundg gh
          case measure => omega
          case rel => exact ⟨i + 1, by omega, by go_num, ⟨_, _, _, E13.out⟩, ⟨_, _, _, E15.out⟩, ⟨_, _, _, E17.out⟩, KE.out⟩
end Go.Proofs.Ytbhgcbgaadnfpaa
