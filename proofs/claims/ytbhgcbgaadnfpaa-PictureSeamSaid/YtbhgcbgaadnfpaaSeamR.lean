/- The rounds of the law PictureSeam's two ranges. -/
import Derived.Test.YtbhgcbgaadnfpaaSeamM
import Derived.Test.YtbhgcbgaadnfpaaHeldS
import Derived.Deep.LoopGhost
import Derived.Outline
namespace Go.Proofs.Ytbhgcbgaadnfpaa
open Go.RowKit Go.Shelf
attribute [local go_sem] Oper.semAt_some

/-- The bodies of a code's ranges over functions, in the text's order. -/
def rngs : Code → List Code
  | .seq a b => rngs a ++ rngs b
  | .cond _ a b => rngs a ++ rngs b
  | .block _ a => rngs a
  | .scope a => rngs a
  | .loop a => rngs a
  | .rangeFunc _ _ _ b => [b]
  | _ => []
/-- How a round goes on, and no other way out. -/
def RoundPost (base : Nat) (W : World) (R : World → Prop) : Exit → Act → World → Prop
  | .normal, _, W' => KeepsFrom base W W' ∧ R W'
  | _, _, _ => False
theorem callsIn_round {l n : Nat} {P : Program} {f : FuncId} {args : Array Value} {w : World} {R : Ending → World → Prop} (h : Calls P f args w R) : CallsIn (Fence.wide.inRound l) n P f args w R := callsIn_wide.2 h
theorem of_ok (T : TilD) (A : Option Addr) (n c : Nat) (w : World) (h : TilAt w T A n c) (hT : tileB T.x T.y T.a T.d n = true) :
    Calls Try.prog 37 #[.agg #[.int .i64 T.x, .int .i64 T.y, .int .i64 T.a, .int .i64 T.d, .slice A n c]] w fun e w' => ∃ A' c', e = .returned (.tuple #[.agg #[.int .i64 T.a, .int .i64 T.d, .slice A' n c'], .int .i64 0]) ∧ Own w' w.heap.size 1 (.slice A' n c') n (bytesV T.pic.g) ∧ Kept w w' :=
  (of_good T A n c w h hT).mono fun e w' hp => by
    unfold PutPost at hp
    rw [if_pos rfl] at hp
    obtain ⟨v, rfl, ho, hk⟩ := hp
    have hl : T.pic.g.length = n := by simp [TilD.pic, shades, h.len]
    rw [hl] at ho
    obtain ⟨A', c', rfl, -⟩ := ho.form
    exact ⟨A', c', rfl, ho, hk⟩

set_option maxRecDepth 100000 in
set_option maxHeartbeats 3200000 in
theorem seam_round1 {l n : Nat} {B : Code} (hBd : (rngs (Try.f11.body.getD Code.skip)).getD 0 Code.skip = B) {u0 u1 u2 u4 u5 u6 u7 u11 u13 u14 u15 u16 u17 u18 u19 u20 u21 u22 u23 u24 u25 u26 u27 u28 u29 u30 u31 u32 u33 u34 u35 u36 u37 u38 u39 u40 u41 u42 u43 u44 u45 u46 u47 u48 u49 u50 u51 u52 u53 u54 u55 u56 u57 u58 u59 u60 u61 u62 u63 u64 u65 u66 u67 u68 u69 u70 u71 u72 u73 u74 u75 u76 u77 u78 u79 u80 u81 u82 u83 u84 u85 u86 u87 u88 u89 u90 u91 u92 u93 u94 u95 u96 u97 u98 u99 u100 u101 u102 u103 u104 u105 u106 u107 u108 u109 u110 u111 u112 u113 u114 u115 u116 u117 u118 u119 u120 u121 u122 u123 u124 u125 u126 u127 u128 u129 u130 u131 u132 u133 u134 u135 u136 u137 u138 u139 u140 u141 u142 u143 u144 u145 u146 u147 u148 u149 u150 u151 u152 u153 u154 u155 u156 u157 u158 u159 u160 u161 u162 u163 u164 u165 u166 u167 : Value} {X W : World} {g : GrD} {Bt Bp Bk Bs base m K : Nat} {TS : List TilH} {PS : List PicH} {vt vp : Value} {Ac : Option Addr} {nc cc : Nat} {CL : List Wit} {Bc Bx : Nat} {x y u v : Int}
    (hI : SeamB X W g Bt Bp Bk base m TS PS vt vp K) (hm : m < 65536) (hr : x = rectX g m ∧ y = rectY g m ∧ u = rectW g m ∧ v = rectH g m) (hT : tileB x y u v (u * v).toNat = true)
    (h0 : W.cell? ⟨Bx, 0, none⟩ = some (.int .i64 x)) (h1 : W.cell? ⟨Bx, 1, none⟩ = some (.int .i64 y)) (h2 : W.cell? ⟨Bx, 2, none⟩ = some (.int .i64 u)) (h3 : W.cell? ⟨Bx, 3, none⟩ = some (.int .i64 v))
    (o1 : Bt < Bp) (o2 : Bp < Bk) (o3 : Bk < Bs) (o4 : Bs < base) (hX : X.heap.size = Bt) (hc : X.cell? ⟨Bc, 0, none⟩ = some (.slice Ac nc cc)) (hrc : Row X Ac (witV CL)) (hl : CL.length = nc) (hn : 0 < nc) (hnc : nc ≤ cc) (hcm : cc ≤ maxLen) (hok : ∀ x ∈ CL, x.ok) (hx1 : x ≤ 65536) (hy1 : y ≤ 65536) :
    B.wpIn (Fence.wide.inRound l) n Try.prog (RoundPost base W fun W' => BKeep Bs W W' ∧ ∃ TS' PS' vt' vp' K', SeamB X W' g Bt Bp Bk base (m + 1) TS' PS' vt' vp' K') { tmps := #[u0, u1, u2, .pointer (some ⟨Bc, 0, none⟩), u4, u5, u6, u7, .pointer (some ⟨Bt, 0, none⟩), .pointer (some ⟨Bp, 0, none⟩), .pointer (some ⟨Bk, 0, none⟩), u11, .pointer (some ⟨Bx, 0, none⟩), u13, u14, u15, u16, u17, u18, u19, u20, u21, u22, u23, u24, u25, u26, u27, u28, u29, u30, u31, u32, u33, u34, u35, u36, u37, u38, u39, u40, u41, u42, u43, u44, u45, u46, u47, u48, u49, u50, u51, u52, u53, u54, u55, u56, u57, u58, u59, u60, u61, u62, u63, u64, u65, u66, u67, u68, u69, u70, u71, u72, u73, u74, u75, u76, u77, u78, u79, u80, u81, u82, u83, u84, u85, u86, u87, u88, u89, u90, u91, u92, u93, u94, u95, u96, u97, u98, u99, u100, u101, u102, u103, u104, u105, u106, u107, u108, u109, u110, u111, u112, u113, u114, u115, u116, u117, u118, u119, u120, u121, u122, u123, u124, u125, u126, u127, u128, u129, u130, u131, u132, u133, u134, u135, u136, u137, u138, u139, u140, u141, u142, u143, u144, u145, u146, u147, u148, u149, u150, u151, u152, u153, u154, u155, u156, u157, u158, u159, u160, u161, u162, u163, u164, u165, u166, u167], defers := [] } W := by
  conv at hBd => lhs; whnf
  subst hBd
  obtain ⟨i43, hi, hi0, hi1, hi2⟩ := info_parts info_witJ
  have hmay := tileB_may hT
  obtain ⟨y1, y2, y3, y4, y5, y6, y7⟩ := mayB_bounds hmay
  obtain ⟨UV, hUV⟩ : ∃ UV : Nat, (UV : Int) = u * v := ⟨(u * v).toNat, Int.toNat_of_nonneg (by omega)⟩
  have hUVn : UV = (u * v).toNat := by omega
  rw [← hUVn] at hT y6 y7
  have hxy0 : 0 ≤ x ∧ 0 ≤ y := by simp [tileB] at hT; omega
  obtain ⟨hx0, hy0⟩ := hxy0
  have HUV := hide hUV
  have HT := hide hT
  have HI := hide hI
  have HR := hide hr
  have HOK := hide hok
  have HL := hide hl
  have HRC := hide hrc
  have HC := hide hc
  have HX := hide hX
  have hK : K ≤ 65536 * 4194304 := Nat.le_trans hI.kb (Nat.mul_le_mul_right _ (by omega))
  obtain ⟨bA, oA, rfl, hrow⟩ : ∃ b o, Ac = some ⟨b, o, none⟩ ∧ ∀ i u, (witV CL)[i]? = some u → X.cell? ⟨b, o + i, none⟩ = some u := by
    rcases hrc with h | h
    · exfalso
      have h9 : (witV CL).length = 0 := by rw [h]; rfl
      rw [witV_length] at h9
      omega
    · exact h
  have HROW := hide hrow
  have e0 : IntKind.i64.wrap (u * v) = u * v := IntWalk.i64_in _ (by omega)
  have hlt0 : Bx < W.heap.size := lt_of_cell h0
  have hbs := hI.bs
  unfold maxLen at hcm
  clear hT hmay y5 hUV hUVn hI hr hok hl hrc hc hX hrow
  obtain ⟨W1, hW1⟩ : ∃ W1, W1 = W.alloc (.cells #[.int .i64 x, .int .i64 y, .int .i64 u, .int .i64 v, .slice none 0 0] 69) := ⟨_, rfl⟩
  have k1 : Kept W W1 := by rw [hW1]; exact (Below.refl _ _).alloc (Nat.le_refl _) _
  have HJ0 : Hid (SeamJ W W1 Bk W.heap.size x y u v K 0 [] (.slice none 0 0)) := by
    show SeamJ _ _ _ _ _ _ _ _ _ _ _ _
    have hlk : Bk < W.heap.size := lt_of_cell HI.out.ck
    refine ⟨(k1.cells _ _ hlk).trans (by rw [HI.out.ck]; simp), (k1.thaw _ _ hlk).trans HI.out.fk, by rw [hW1]; simp, by rw [hW1]; simp, by rw [hW1]; simp, by rw [hW1]; simp, by rw [hW1]; simp, by rw [hW1]; exact fresh_frozen _ _ _ _, Own.nil _ _ _, rfl, by simp, (kept_grown k1).but _, by rw [hW1]; simp⟩
  gi_wp2
  rw [← hW1]
  clear hW1 k1 h0 h1 h2 h3 e0 hi0
  have hi0 : i43.zero = some (.agg #[.int .u8 0, .int .i64 0, .int .i64 0]) := by
    obtain ⟨i, q1, q2, q3, q4⟩ := info_parts info_witJ
    rw [hi] at q1; cases q1; exact q2
  gi_loopw [73] (fun ix wr => ∃ (j : Nat) (cs : List Wit) (vv : Value), j ≤ UV ∧ ix = .int .i64 j ∧ SeamJ W wr Bk W.heap.size x y u v K j cs vv) (fun ix _ => UV - (intOf ix).toNat)
  case atStart => exact ⟨0, [], _, Nat.zero_le _, rfl, HJ0.out⟩
  case round =>
    clear HJ0
    obtain ⟨j, cs, vv, hj, rfl, hJ⟩ := hrel
    by_cases hlt : j < UV
    · have hltI : (j : Int) < u * v := by have := HUV.out; omega
      obtain ⟨r, hr⟩ : ∃ r, r = (K + j) % nc := ⟨_, rfl⟩
      have hrn : r < nc := by rw [hr]; exact Nat.mod_lt _ hn
      have hrI : (r : Int) < (nc : Int) := by omega
      obtain ⟨c, hcg⟩ : ∃ c, CL[r]? = some c := ⟨_, List.getElem?_eq_getElem (by have := HL.out; omega)⟩
      have m1 : Int.tmod ((K : Int) + (j : Int)) (nc : Int) = (r : Int) := by rw [Int.tmod_eq_emod_of_nonneg (by omega), hr, Int.natCast_emod, Int.natCast_add]
      have m5 : ¬ nc = 0 := by omega
      have m2 : IntKind.i64.wrap (r : Int) = (r : Int) := IntWalk.i64_in _ (by omega)
      have m3 : ((nc : Int) == 0) = false := by simp; omega
      have m4 : (nc : Int) ≠ 0 := by omega
      obtain ⟨Av, cv, hvv, hvc, hvm, -, hvb, -⟩ := hJ.own.form
      subst hvv
      have xw : Below Bt X wr := HI.out.low.grown hJ.keep (by have := HX.out; have := HI.out.low.size; omega) (fun k e => by cases e; omega)
      have xc : ∀ b o, b < Bt → wr.cell? ⟨b, o, none⟩ = X.cell? ⟨b, o, none⟩ := fun b o hb => xw.cell (p := ⟨b, o, none⟩) hb
      have hBc : Bc < Bt := by rw [← HX.out]; exact lt_of_cell HC.out
      obtain ⟨g0, g1, g2⟩ := witV_get CL r c hcg
      have hbA : bA < Bt := by rw [← HX.out]; exact lt_of_cell (HROW.out _ _ g0)
      have hBkW : Bk < W.heap.size := lt_of_cell HI.out.ck
      have HS : Hid (∀ Z : World, (∀ b o, b ≤ W.heap.size → Z.cell? ⟨b, o, none⟩ = wr.cell? ⟨b, o, none⟩) → (Z.cell? ⟨W.heap.size, 4, none⟩ = some (.slice Av j cv) ∧ Z.cell? ⟨Bc, 0, none⟩ = some (.slice (some ⟨bA, oA, none⟩) nc cc) ∧ Z.cell? ⟨Bk, 0, none⟩ = some (.int .i64 ((K : Int) + (j : Int))) ∧ Z.cell? ⟨bA, oA + r * 3, none⟩ = some (.int .u8 c.t) ∧ Z.cell? ⟨bA, oA + r * 3 + 1, none⟩ = some (.int .i64 c.s) ∧ Z.cell? ⟨bA, oA + r * 3 + 2, none⟩ = some (.int .i64 c.r))) := fun Z hZ =>
        ⟨(hZ _ _ (Nat.le_refl _)).trans hJ.b4, (hZ _ _ (by omega)).trans ((xc _ _ hBc).trans HC.out), (hZ _ _ (by omega)).trans hJ.ck, (hZ _ _ (by omega)).trans ((xc _ _ hbA).trans (HROW.out _ _ g0)), (hZ _ _ (by omega)).trans ((xc _ _ hbA).trans (by rw [Nat.add_assoc]; exact HROW.out _ _ g1)), (hZ _ _ (by omega)).trans ((xc _ _ hbA).trans (by rw [Nat.add_assoc]; exact HROW.out _ _ g2))⟩
      have hlw := hJ.lt
      have HS0 := hide (HS.out wr.drew (fun _ _ _ => rfl))
      obtain ⟨W1r, hW1r⟩ : ∃ W1r, W1r = (wr.alloc (.cells #[.int .u8 c.t, .int .i64 c.s, .int .i64 c.r] 43)).drew := ⟨_, rfl⟩
      have kr1 : Kept wr W1r := by rw [hW1r]; exact ((Below.refl _ wr).alloc (Nat.le_refl _) _).drew
      have HS1 := HS.out W1r (fun b o hb => kr1.cells _ _ (by omega))
      have HSg : Hid (∀ Z : World, W1r.grownBy Z (Value.slice Av j cv).ownBlock → ((∀ b o, b ≤ W.heap.size → Z.cell? ⟨b, o, none⟩ = wr.cell? ⟨b, o, none⟩) ∧ ∀ b o, b ≤ W.heap.size → Z.frozen? ⟨b, o, none⟩ = wr.frozen? ⟨b, o, none⟩)) := fun Z hZ => by
        have hz1 := kr1.size
        have hnb : ∀ b, b ≤ W.heap.size → some b ≠ (Value.slice Av j cv).ownBlock := fun b hb e => by have := (hJ.own.lt b e.symm).1; omega
        exact ⟨fun b o hb => (hZ.cell_far ⟨b, o, none⟩ (by show b < _; omega) (hnb b hb)).trans (kr1.cells _ _ (by omega)), fun b o hb => (hZ.frozen_far ⟨b, o, none⟩ (by show b < _; omega) (hnb b hb)).trans (kr1.thaw _ _ (by omega))⟩
      have HRw : Hid (Row W1r (some ⟨wr.heap.size, 0, none⟩) (witV [c])) := by
        show Row _ _ _
        rw [hW1r]; exact (Row.new_at _ _ _ _ _ _ rfl rfl).drew
      have HOw : Hid (Own W1r (W.heap.size + 1) 3 (.slice Av j cv) j (witV cs)) := hJ.own.kept kr1
      have HSt : Hid (∀ W5 v5, W1r.grownBy W5 (Value.slice Av j cv).ownBlock → Own W5 (W.heap.size + 1) 3 v5 (j + 1) (witV cs ++ witV [c]) → SeamJ W ((W5.setCell ⟨W.heap.size, 4, none⟩ v5).setCell ⟨Bk, 0, none⟩ (.int .i64 ((K : Int) + (j : Int) + 1))) Bk W.heap.size x y u v K (j + 1) (cs ++ [c]) v5) := fun W5 v5 hg ho => by
        have h9 := hJ.step rfl hBkW kr1 hg ho (HOK.out c (List.mem_of_getElem? hcg))
        rwa [show (K : Int) + ((j + 1 : Nat) : Int) = (K : Int) + (j : Int) + 1 by omega] at h9
      have HF := hide (And.intro hJ.fk (And.intro hJ.f4 hJ.ck))
      have hzr : W.heap.size + 1 ≤ W1r.heap.size := by have := kr1.size; omega
      clear xw xc hJ g0 g1 g2 hr hcg hBc hbA
      have HW1 := hide hW1r
      clear hW1r
      gi_wp2
      refine wpIn_region_L (fun Z : World => (Z.cell? ⟨W.heap.size, 4, none⟩ = some (.slice Av j cv) ∧ Z.cell? ⟨Bc, 0, none⟩ = some (.slice (some ⟨bA, oA, none⟩) nc cc) ∧ Z.cell? ⟨Bk, 0, none⟩ = some (.int .i64 ((K : Int) + (j : Int))) ∧ Z.cell? ⟨bA, oA + r * 3, none⟩ = some (.int .u8 c.t) ∧ Z.cell? ⟨bA, oA + r * 3 + 1, none⟩ = some (.int .i64 c.s) ∧ Z.cell? ⟨bA, oA + r * 3 + 2, none⟩ = some (.int .i64 c.r))) 12 (by kernel_rfl) (by kernel_rfl) ?_ (fun hHeld => ?_)
      · first | exact HS0.out | assumption | (rw [← HW1.out]; exact HS1) | exact HS5
      refine wpAnyL_take (i := 0) (v := ?_) (some 75) rfl rfl (by kernel_rfl) (by kernel_rfl) (by kernel_rfl) (by kernel_rfl) (fun _ _ _ h => h) (Or.inl ⟨by rfl, ?_⟩) (by assumption) ?_
      rotate_left
      · intro w hSw; (try dsimp only at hSw); go_simp; (try with_reducible rfl)
      try simp only [Act.put, List.setIfInBounds_toArray, List.set_cons_zero, List.set_cons_succ]
      refine wpAnyL_take (i := 1) (v := ?_) (some 76) rfl rfl (by kernel_rfl) (by kernel_rfl) (by kernel_rfl) (by kernel_rfl) (fun _ _ _ h => h) (Or.inl ⟨by rfl, ?_⟩) (by assumption) ?_
      rotate_left
      · intro w hSw; (try dsimp only at hSw); go_simp; (try with_reducible rfl)
      try simp only [Act.put, List.setIfInBounds_toArray, List.set_cons_zero, List.set_cons_succ]
      refine wpAnyL_take (i := 2) (v := ?_) (some 77) rfl rfl (by kernel_rfl) (by kernel_rfl) (by kernel_rfl) (by kernel_rfl) (fun _ _ _ h => h) (Or.inl ⟨by rfl, ?_⟩) (by assumption) ?_
      rotate_left
      · intro w hSw; (try dsimp only at hSw); go_simp; (try with_reducible rfl)
      try simp only [Act.put, List.setIfInBounds_toArray, List.set_cons_zero, List.set_cons_succ]
      refine wpAnyL_take (i := 3) (v := ?_) (some 78) rfl rfl (by kernel_rfl) (by kernel_rfl) (by kernel_rfl) (by kernel_rfl) (fun _ _ _ h => h) (Or.inl ⟨by rfl, ?_⟩) (by assumption) ?_
      rotate_left
      · intro w hSw; (try dsimp only at hSw); go_simp; (try with_reducible rfl)
      try simp only [Act.put, List.setIfInBounds_toArray, List.set_cons_zero, List.set_cons_succ]
      refine wpAnyL_take (i := 4) (v := ?_) (some 79) rfl rfl (by kernel_rfl) (by kernel_rfl) (by kernel_rfl) (by kernel_rfl) (fun _ _ _ h => h) (Or.inl ⟨by rfl, ?_⟩) (by assumption) ?_
      rotate_left
      · intro w hSw; (try dsimp only at hSw); go_simp; (try with_reducible rfl)
      try simp only [Act.put, List.setIfInBounds_toArray, List.set_cons_zero, List.set_cons_succ]
      refine wpAnyL_take (i := 5) (v := ?_) (some 80) rfl rfl (by kernel_rfl) (by kernel_rfl) (by kernel_rfl) (by kernel_rfl) (fun _ _ _ h => h) (Or.inl ⟨by rfl, ?_⟩) (by assumption) ?_
      rotate_left
      · intro w hSw; (try dsimp only at hSw); go_simp; (try with_reducible rfl)
      try simp only [Act.put, List.setIfInBounds_toArray, List.set_cons_zero, List.set_cons_succ]
      refine wpAnyL_take (i := 6) (v := ?_) (some 81) rfl rfl (by kernel_rfl) (by kernel_rfl) (by kernel_rfl) (by kernel_rfl) (fun _ _ _ h => h) (Or.inl ⟨by rfl, ?_⟩) (by assumption) ?_
      rotate_left
      · intro w hSw; (try dsimp only at hSw); go_simp; (try with_reducible rfl)
      try simp only [Act.put, List.setIfInBounds_toArray, List.set_cons_zero, List.set_cons_succ]
      refine wpAnyL_take (i := 7) (v := ?_) (some 82) rfl rfl (by kernel_rfl) (by kernel_rfl) (by kernel_rfl) (by kernel_rfl) (fun _ _ _ h => h) (Or.inl ⟨by rfl, ?_⟩) (by assumption) ?_
      rotate_left
      · intro w hSw; (try dsimp only at hSw); go_simp; (try with_reducible rfl)
      try simp only [Act.put, List.setIfInBounds_toArray, List.set_cons_zero, List.set_cons_succ]
      refine wpAnyL_take (i := 8) (v := ?_) (some 83) rfl rfl (by kernel_rfl) (by kernel_rfl) (by kernel_rfl) (by kernel_rfl) (fun _ _ _ h => h) (Or.inl ⟨by rfl, ?_⟩) (by assumption) ?_
      rotate_left
      · intro w hSw; (try dsimp only at hSw); go_simp; (try with_reducible rfl)
      try simp only [Act.put, List.setIfInBounds_toArray, List.set_cons_zero, List.set_cons_succ]
      refine wpAnyL_one (i := 9) (by kernel_rfl) rfl (fun K hK => ?_)
      go_simp
      refine hK.out _ _ ?_ (fun hHeld => ?_)
      · first | exact HS0.out | assumption | (rw [← HW1.out]; exact HS1) | exact HS5
      clear hK K
      try simp only [Act.put, List.setIfInBounds_toArray, List.set_cons_zero, List.set_cons_succ]
      refine wpAnyL_one (i := 10) (by kernel_rfl) rfl (fun K hK => ?_)
      (rw [← HW1.out]; refine step_append_row _ rfl _ _ 67 rfl (W.heap.size + 1) 43 i43 (.agg #[.int .u8 0, .int .i64 0, .int .i64 0]) 3 24 Try.underlying67 hi hi0 hi1 hi2 rfl (by decide) (.slice Av j cv) j _ rfl HOw.out (some ⟨wr.heap.size, 0, none⟩) 1 1 (witV [c]) rfl rfl HRw.out (witV_one _) (by unfold maxLen; omega) (by omega) hzr ?_; intro v5 w5 hown5 hg5 hat5; have HS5 := HS.out w5 (HSg.out w5 hg5).1; have ef := ((HSg.out w5 hg5).2 W.heap.size 4 (Nat.le_refl _)).trans HF.out.2.1; have kf := ((HSg.out w5 hg5).2 Bk 0 (by omega)).trans HF.out.1; have hkc := HS5.2.2.1; obtain ⟨A5, c5, rfl, -, -, -, -, -⟩ := hown5.form)
      refine hK.out _ _ ?_ (fun hHeld => ?_)
      · first | exact HS0.out | assumption | (rw [← HW1.out]; exact HS1) | exact HS5
      clear hK K
      try simp only [Act.put, List.setIfInBounds_toArray]
      refine wpAnyL_one (i := 11) (by kernel_rfl) rfl (fun K hK => ?_)
      go_simp
      refine hK.out _ _ ?_ (fun hHeld => ?_)
      · first | exact HS0.out | assumption | (rw [← HW1.out]; exact HS1) | exact HS5
      clear hK K
      try simp only [Act.put, List.setIfInBounds_toArray, List.set_cons_zero, List.set_cons_succ]
      refine wpAnyL_end (by kernel_rfl) rfl (fun K hK => ?_)
      go_simp
      refine hK.out _ _ ?_
      clear hK K
      try simp only [Act.put, List.setIfInBounds_toArray, List.set_cons_zero, List.set_cons_succ]
      refine wpAnyL_done (by kernel_rfl) ?_ _
      refine OnlyN.ok ?_
      have HG := hide (HSt.out w5 _ hg5 hown5)
      clear hown5 hg5 hat5 HS5 HS1 HS0 ef
      gi_wp2
      go_roundw
      case rel => exact ⟨j + 1, cs ++ [c], _, by omega, by go_num, HG.out⟩
      case measure => simp [intOf]; omega
    · obtain rfl : j = UV := by omega
      have hgeI : ¬ (j : Int) < u * v := by have := HUV.out; omega
      obtain ⟨Av, cv, hvv, hvc, hvm, hrA, hvb, hvn⟩ := hJ.own.form
      subst hvv
      obtain ⟨UV, hUVj⟩ : ∃ UV, UV = j := ⟨_, rfl⟩
      subst hUVj
      have TA : TilAt wr ⟨x, y, u, v, cs⟩ Av UV cv := ⟨hJ.len, hvc, by omega, hrA, hJ.ok, by show _ ≤ x; omega, by show x ≤ _; omega, by show _ ≤ y; omega, by show y ≤ _; omega, by show _ ≤ u; omega, by show u ≤ _; omega, by show _ ≤ v; omega, by show v ≤ _; omega⟩
      have CO : Hid (Calls Try.prog 37 #[.agg #[.int .i64 x, .int .i64 y, .int .i64 u, .int .i64 v, .slice Av UV cv]] wr fun e w' => ∃ A' c', e = .returned (.tuple #[.agg #[.int .i64 u, .int .i64 v, .slice A' UV c'], .int .i64 0]) ∧ Own w' wr.heap.size 1 (.slice A' UV c') UV (bytesV (shades ⟨x, y, u, v, cs⟩)) ∧ Kept wr w') := of_ok ⟨x, y, u, v, cs⟩ Av UV cv wr TA HT.out
      have HJ := hide hJ
      obtain ⟨-, -, b0, b1, b2, b3, b4, -, -, -, -, -, hlt⟩ := hJ
      have HTA := hide TA
      have HHB := hide hvb
      clear hrA hvb hvn TA
      gi_wp2
      refine ⟨trivial, fun h0 => by simp [Fence.wide] at h0, (callsIn_round CO.out).mono ?_⟩
      rintro e w6 ⟨A6, c6, rfl, ho6, hk6⟩
      obtain ⟨W7, hW7⟩ : ∃ W7, W7 = w6.alloc (.cells #[.int .i64 u, .int .i64 v, .slice A6 UV c6] 24) := ⟨_, rfl⟩
      have k67 : Kept w6 W7 := by rw [hW7]; exact (Below.refl _ _).alloc (Nat.le_refl _) _
      have z7 : W7.heap.size = w6.heap.size + 1 := by rw [hW7]; simp
      have k7 : Kept wr W7 := hk6.trans' k67
      have p0 : W7.cell? ⟨w6.heap.size, 0, none⟩ = some (.int .i64 u) := by rw [hW7]; simp
      have p1 : W7.cell? ⟨w6.heap.size, 1, none⟩ = some (.int .i64 v) := by rw [hW7]; simp
      have p2 : W7.cell? ⟨w6.heap.size, 2, none⟩ = some (.slice A6 UV c6) := by rw [hW7]; simp
      have hs6 := hk6.size
      have hne : ∀ b, base ≤ b → b ≠ Bk := fun b hb e => by omega
      have HSI : Hid (SeamI g W7 base vt vp TS PS) := by
        show SeamI _ _ _ _ _ _ _
        exact (HI.out.own.same HJ.out.keep.size (fun b hb hl => HJ.out.keep.block b hl (fun e => hne b hb (by cases e; rfl)))).kept k7
      have hg7 : W.grownBy W7 (some Bk) := HJ.out.keep.trans ((kept_grown k7).but _)
      have HB7 : Hid (base ≤ W7.heap.size) := Nat.le_trans hbs hg7.size
      have HM0 := hide (Mid.start HSI.out)
      have hvl : ∀ k, vt.ownBlock = some k → k < W.heap.size := fun k e => (HI.out.own.ot.lt k e).2
      have hpl : ∀ k, vp.ownBlock = some k → k < W.heap.size := fun k e => (HI.out.own.op.lt k e).2
      have HSm : Hid (∀ (Z : World) v1 v2 a b c d, Mid W7 Z base vt vp v1 v2 a b c d → (Z.cell? ⟨Bt, 0, none⟩ = some vt ∧ Z.cell? ⟨Bp, 0, none⟩ = some vp ∧ Z.cell? ⟨W.heap.size, 0, none⟩ = some (.int .i64 x) ∧ Z.cell? ⟨W.heap.size, 1, none⟩ = some (.int .i64 y) ∧ Z.cell? ⟨W.heap.size, 2, none⟩ = some (.int .i64 u) ∧ Z.cell? ⟨W.heap.size, 3, none⟩ = some (.int .i64 v) ∧ Z.cell? ⟨W.heap.size, 4, none⟩ = some (.slice Av UV cv) ∧ Z.cell? ⟨w6.heap.size, 0, none⟩ = some (.int .i64 u) ∧ Z.cell? ⟨w6.heap.size, 1, none⟩ = some (.int .i64 v) ∧ Z.cell? ⟨w6.heap.size, 2, none⟩ = some (.slice A6 UV c6))) := fun Z v1 v2 a b c d hM => by
        have lo : ∀ b o, b < base → b ≠ Bk → Z.cell? ⟨b, o, none⟩ = W.cell? ⟨b, o, none⟩ := fun b o hb hn => (hM.low.cell (p := ⟨b, o, none⟩) hb).trans (hg7.cell_far ⟨b, o, none⟩ (by show b < _; omega) (fun e => hn (by cases e; rfl)))
        have hi9 : ∀ b o, W.heap.size ≤ b → b < W7.heap.size → Z.cell? ⟨b, o, none⟩ = W7.cell? ⟨b, o, none⟩ := fun b o h1 h2 => World.cell?_of_block (a := ⟨b, o, none⟩) (hM.two b h2 (fun e => by have := hvl b e; omega) (fun e => by have := hpl b e; omega))
        have hT7 : ∀ o v, wr.cell? ⟨W.heap.size, o, none⟩ = some v → Z.cell? ⟨W.heap.size, o, none⟩ = some v := fun o v hv => (hi9 _ _ (Nat.le_refl _) (by have := k7.size; omega)).trans ((k7.cells _ _ hlt).trans hv)
        exact ⟨(lo Bt 0 (by omega) (by omega)).trans HI.out.ct, (lo Bp 0 (by omega) (by omega)).trans HI.out.cp, hT7 _ _ HJ.out.b0, hT7 _ _ HJ.out.b1, hT7 _ _ HJ.out.b2, hT7 _ _ HJ.out.b3, hT7 _ _ HJ.out.b4, (hi9 _ _ (by omega) (by omega)).trans p0, (hi9 _ _ (by omega) (by omega)).trans p1, (hi9 _ _ (by omega) (by omega)).trans p2⟩
      have HFm : Hid (∀ (Z : World) v1 v2 a b c d, Mid W7 Z base vt vp v1 v2 a b c d → Z.frozen? ⟨Bt, 0, none⟩ = false ∧ Z.frozen? ⟨Bp, 0, none⟩ = false) := fun Z v1 v2 a b c d hM => by
        have lo : ∀ b o, b < base → b ≠ Bk → Z.frozen? ⟨b, o, none⟩ = W.frozen? ⟨b, o, none⟩ := fun b o hb hn => (hM.low.frozen (p := ⟨b, o, none⟩) hb).trans (hg7.frozen_far ⟨b, o, none⟩ (by show b < _; omega) (fun e => hn (by cases e; rfl)))
        exact ⟨(lo Bt 0 (by omega) (by omega)).trans HI.out.ft, (lo Bp 0 (by omega) (by omega)).trans HI.out.fp⟩
      have hAv : ∀ b off, Av = some ⟨b, off, none⟩ → W.heap.size + 1 ≤ b ∧ b < wr.heap.size := fun b off e => HJ.out.own.lt b (by rw [e]; rfl)
      have hA6 : ∀ b off, A6 = some ⟨b, off, none⟩ → wr.heap.size ≤ b ∧ b < w6.heap.size := fun b off e => ho6.lt b (by rw [e]; rfl)
      have HCL : Hid (∀ (w7 : World) vt1 vp1, Mid W7 w7 base vt vp vt1 vp1 (TS.length + 1) (PS.length + 1) (tilV TS ++ tilV [⟨⟨x, y, u, v, cs⟩, Av, UV, cv⟩]) (picVs PS ++ picVs [⟨⟨u, v, shades ⟨x, y, u, v, cs⟩⟩, A6, UV, c6⟩]) →
          KeepsFrom base W ((w7.setCell ⟨Bt, 0, none⟩ vt1).setCell ⟨Bp, 0, none⟩ vp1) ∧ BKeep Bs W ((w7.setCell ⟨Bt, 0, none⟩ vt1).setCell ⟨Bp, 0, none⟩ vp1) ∧ SeamB X ((w7.setCell ⟨Bt, 0, none⟩ vt1).setCell ⟨Bp, 0, none⟩ vp1) g Bt Bp Bk base (m + 1) (TS ++ [⟨⟨x, y, u, v, cs⟩, Av, UV, cv⟩]) (PS ++ [⟨⟨u, v, shades ⟨x, y, u, v, cs⟩⟩, A6, UV, c6⟩]) vt1 vp1 (K + UV)) := fun w7 vt1 vp1 hM => by
        refine HI.out.close o1 o2 o3 o4 (by rw [HX.out]; exact Nat.le_refl _) hg7 ((k7.cells _ _ (by have := lt_of_cell HI.out.ck; have := HJ.out.keep.size; omega)).trans (by rw [HJ.out.ck, Int.natCast_add])) ((k7.thaw _ _ (by have := lt_of_cell HI.out.ck; have := HJ.out.keep.size; omega)).trans HJ.out.fk) HSI.out (HTA.out.kept k7) (fun b off e => ?_) ⟨by simp [shades, HJ.out.len], ?_, by show UV ≤ _; omega, ho6.row.kept k67, by show _ ≤ u; omega, by show u ≤ _; omega, by show _ ≤ v; omega, by show v ≤ _; omega⟩ (fun b off e => ?_) hM rfl ?_ ?_
        · obtain ⟨e1, e2⟩ := hAv b off e
          exact ⟨by omega, by have := k7.size; omega, fun h9 => by have := hvl b h9; omega, fun h9 => by have := hpl b h9; omega⟩
        · obtain ⟨A9, c9, hv9, hc9, -⟩ := ho6.form
          injection hv9 with _ _ h9
          show UV ≤ c6
          omega
        · obtain ⟨e1, e2⟩ := hA6 b off e
          have := HJ.out.keep.size
          exact ⟨by omega, by omega, fun h9 => by have := hvl b h9; omega, fun h9 => by have := hpl b h9; omega⟩
        · obtain ⟨r1, r2, r3, r4⟩ := HR.out
          exact ⟨r1, r2, r3, r4, by show (UV : Int) = _; rw [HUV.out, r3, r4]⟩
        · have := HI.out.kb
          rw [Nat.add_mul]
          omega
      have hTl : TS.length = m := HI.out.len
      have hPl : PS.length = m := by
        have := congrArg List.length HI.out.own.pic
        rw [List.length_map, List.length_map] at this
        omega
      have bt1 : TS.length + 1 ≤ maxLen := by unfold maxLen; omega
      have bt2 : (TS.length + 1) * 56 ≤ 140737488355328 := by rw [Nat.add_mul]; omega
      have bp1 : PS.length + 1 ≤ maxLen := by unfold maxLen; omega
      have bp2 : (PS.length + 1) * 40 ≤ 140737488355328 := by rw [Nat.add_mul]; omega
      obtain ⟨i69, ti, ti0, ti1, ti2⟩ := info_parts info_tile
      obtain ⟨i24, pi, pi0, pi1, pi2⟩ := info_parts info_pic
      have hbp : ¬ Bp = Bt := by omega
      have hpb : ¬ Bt = Bp := by omega
      have HS0 := hide (HSm.out W7.drew _ _ _ _ _ _ (HM0.out.kept HB7.out (Below.refl _ W7).drew))
      obtain ⟨c0, c1, c2, c3, c4, c5, c66, c7, c8, c9⟩ := HSm.out _ _ _ _ _ _ _ HM0.out
      have hlw6 : w6.heap.size < W7.heap.size := by omega
      clear b0 b1 b2 b3 b4 hlt k67 k7 p0 p1 p2 hs6 hg7 hvl hpl hAv hA6 ho6 hk6 hTl hPl z7 hgeI
      gi_wp2
      rw [← hW7]
      clear hW7 c0 c1 c2 c3 c4 c5 c66 c7 c8 c9
      refine wpIn_region_S (fun Z : World => (Z.cell? ⟨Bt, 0, none⟩ = some vt ∧ Z.cell? ⟨Bp, 0, none⟩ = some vp ∧ Z.cell? ⟨W.heap.size, 0, none⟩ = some (.int .i64 x) ∧ Z.cell? ⟨W.heap.size, 1, none⟩ = some (.int .i64 y) ∧ Z.cell? ⟨W.heap.size, 2, none⟩ = some (.int .i64 u) ∧ Z.cell? ⟨W.heap.size, 3, none⟩ = some (.int .i64 v) ∧ Z.cell? ⟨W.heap.size, 4, none⟩ = some (.slice Av UV cv) ∧ Z.cell? ⟨w6.heap.size, 0, none⟩ = some (.int .i64 u) ∧ Z.cell? ⟨w6.heap.size, 1, none⟩ = some (.int .i64 v) ∧ Z.cell? ⟨w6.heap.size, 2, none⟩ = some (.slice A6 UV c6))) [8,9] (by kernel_rfl) (by kernel_rfl) ?_ (fun hHeld => ?_)
      · first | exact HS0.out | assumption | exact HSm.out _ _ _ _ _ _ _ (HM0.out.kept HB7.out (((Below.refl _ W7).alloc (Nat.le_refl _) _).drew)) | exact HSm.out _ _ _ _ _ _ _ (HM0.out.kept HB7.out ((((Below.refl _ W7).alloc (Nat.le_refl _) _).alloc (by simp) _).drew)) | exact HSm.out _ _ _ _ _ _ _ (M3.out.kept hb3 ((Below.refl _ w3).alloc (Nat.le_refl _) _)) | exact HSm.out _ _ _ _ _ _ _ M7.out
      refine wpAnyS_take (i := 0) (v := ?_) (some 97) rfl rfl (by kernel_rfl) (by kernel_rfl) (by kernel_rfl) (by kernel_rfl) (fun _ _ _ h => h) (Or.inl ⟨by rfl, ?_⟩) (by assumption) ?_
      rotate_left
      · intro w hSw; (try dsimp only at hSw); go_simp; (try with_reducible rfl)
      try simp only [Act.put, List.setIfInBounds_toArray, List.set_cons_zero, List.set_cons_succ]
      refine wpAnyS_take (i := 1) (v := ?_) (some 98) rfl rfl (by kernel_rfl) (by kernel_rfl) (by kernel_rfl) (by kernel_rfl) (fun _ _ _ h => h) (Or.inl ⟨by rfl, ?_⟩) (by assumption) ?_
      rotate_left
      · intro w hSw; (try dsimp only at hSw); go_simp; (try with_reducible rfl)
      try simp only [Act.put, List.setIfInBounds_toArray, List.set_cons_zero, List.set_cons_succ]
      refine wpAnyS_take (i := 4) (v := ?_) (some 101) rfl rfl (by kernel_rfl) (by kernel_rfl) (by kernel_rfl) (by kernel_rfl) (fun _ _ _ h => h) (Or.inl ⟨by rfl, ?_⟩) (by assumption) ?_
      rotate_left
      · intro w hSw; (try dsimp only at hSw); go_simp; (try with_reducible rfl)
      try simp only [Act.put, List.setIfInBounds_toArray, List.set_cons_zero, List.set_cons_succ]
      refine wpAnyS_take (i := 5) (v := ?_) (some 102) rfl rfl (by kernel_rfl) (by kernel_rfl) (by kernel_rfl) (by kernel_rfl) (fun _ _ _ h => h) (Or.inl ⟨by rfl, ?_⟩) (by assumption) ?_
      rotate_left
      · intro w hSw; (try dsimp only at hSw); go_simp; (try with_reducible rfl)
      try simp only [Act.put, List.setIfInBounds_toArray, List.set_cons_zero, List.set_cons_succ]
      refine wpAnyS_two (i := 2) (j := 6) (by kernel_rfl) rfl rfl (fun K hK => ?_) (fun K hK => ?_)
      · skip
        go_simp
        refine hK.out _ _ ?_ (fun hHeld => ?_)
        · first | exact HS0.out | assumption | exact HSm.out _ _ _ _ _ _ _ (HM0.out.kept HB7.out (((Below.refl _ W7).alloc (Nat.le_refl _) _).drew)) | exact HSm.out _ _ _ _ _ _ _ (HM0.out.kept HB7.out ((((Below.refl _ W7).alloc (Nat.le_refl _) _).alloc (by simp) _).drew)) | exact HSm.out _ _ _ _ _ _ _ (M3.out.kept hb3 ((Below.refl _ w3).alloc (Nat.le_refl _) _)) | exact HSm.out _ _ _ _ _ _ _ M7.out
        clear hK K
        try simp only [Act.put, List.setIfInBounds_toArray, List.set_cons_zero, List.set_cons_succ]
        refine wpAnyS_two (i := 3) (j := 6) (by kernel_rfl) rfl rfl (fun K hK => ?_) (fun K hK => ?_)
        · skip
          (refine step_append_row _ rfl _ _ 91 rfl base 69 i69 (.agg #[.int .i64 0, .int .i64 0, .int .i64 0, .int .i64 0, .slice none 0 0]) 5 56 Try.underlying91 ti ti0 ti1 ti2 rfl (by decide) vt TS.length _ rfl (HM0.out.kept HB7.out (((Below.refl _ W7).alloc (Nat.le_refl _) _).drew)).ot (some ⟨W7.heap.size, 0, none⟩) 1 1 (tilV [⟨⟨x, y, u, v, cs⟩, Av, UV, cv⟩]) rfl rfl (show Row _ _ _ from (Row.new_at _ _ _ _ _ _ rfl (by rfl)).drew) (tilV_one _) bt1 bt2 (Nat.le_trans HB7.out (by first | (simp; done) | (simp; omega))) ?_; intro v3 w3 hown3 hg3 hat3; have M3 := hide ((HM0.out.kept HB7.out (((Below.refl _ W7).alloc (Nat.le_refl _) _).drew)).appT (Nat.le_trans HB7.out (by first | (simp; done) | (simp; omega))) hg3 hown3 hat3); have hb3 : base ≤ w3.heap.size := Nat.le_trans (Nat.le_trans HB7.out (by first | (simp; done) | (simp; omega))) hg3.size; have hS3 := HSm.out _ _ _ _ _ _ _ M3.out; obtain ⟨A3, c3, rfl, -, -, -, -, -⟩ := hown3.form)
          refine hK.out _ _ ?_ (fun hHeld => ?_)
          · first | exact HS0.out | assumption | exact HSm.out _ _ _ _ _ _ _ (HM0.out.kept HB7.out (((Below.refl _ W7).alloc (Nat.le_refl _) _).drew)) | exact HSm.out _ _ _ _ _ _ _ (HM0.out.kept HB7.out ((((Below.refl _ W7).alloc (Nat.le_refl _) _).alloc (by simp) _).drew)) | exact HSm.out _ _ _ _ _ _ _ (M3.out.kept hb3 ((Below.refl _ w3).alloc (Nat.le_refl _) _)) | exact HSm.out _ _ _ _ _ _ _ M7.out
          clear hK K
          try simp only [Act.put, List.setIfInBounds_toArray]
          refine wpAnyS_one (i := 6) (by kernel_rfl) rfl (fun K hK => ?_)
          go_simp
          refine hK.out _ _ ?_ (fun hHeld => ?_)
          · first | exact HS0.out | assumption | exact HSm.out _ _ _ _ _ _ _ (HM0.out.kept HB7.out (((Below.refl _ W7).alloc (Nat.le_refl _) _).drew)) | exact HSm.out _ _ _ _ _ _ _ (HM0.out.kept HB7.out ((((Below.refl _ W7).alloc (Nat.le_refl _) _).alloc (by simp) _).drew)) | exact HSm.out _ _ _ _ _ _ _ (M3.out.kept hb3 ((Below.refl _ w3).alloc (Nat.le_refl _) _)) | exact HSm.out _ _ _ _ _ _ _ M7.out
          clear hK K
          try simp only [Act.put, List.setIfInBounds_toArray, List.set_cons_zero, List.set_cons_succ]
          refine wpAnyS_one (i := 7) (by kernel_rfl) rfl (fun K hK => ?_)
          (refine step_append_row _ rfl _ _ 58 rfl base 24 i24 (.agg #[.int .i64 0, .int .i64 0, .slice none 0 0]) 3 40 Try.underlying58 pi pi0 pi1 pi2 rfl (by decide) vp PS.length _ rfl (M3.out.kept hb3 ((Below.refl _ w3).alloc (Nat.le_refl _) _)).op (some ⟨w3.heap.size, 0, none⟩) 1 1 (picVs [⟨⟨u, v, shades ⟨x, y, u, v, cs⟩⟩, A6, UV, c6⟩]) rfl rfl (Row.new_at _ _ _ _ _ _ rfl (by rfl)) (picVs_one _) bp1 bp2 (Nat.le_trans hb3 (by simp)) ?_; intro v7 w7 hown7 hg7 hat7; have M7 := hide ((M3.out.kept hb3 ((Below.refl _ w3).alloc (Nat.le_refl _) _)).appP (Nat.le_trans hb3 (by simp)) hg7 hown7 hat7); obtain ⟨st7, sp7, -⟩ := HSm.out _ _ _ _ _ _ _ M7.out; obtain ⟨ft7, fp7⟩ := HFm.out _ _ _ _ _ _ _ M7.out; obtain ⟨A7, c7, rfl, -, -, -, -, -⟩ := hown7.form)
          refine hK.out _ _ ?_ (fun hHeld => ?_)
          · first | exact HS0.out | assumption | exact HSm.out _ _ _ _ _ _ _ (HM0.out.kept HB7.out (((Below.refl _ W7).alloc (Nat.le_refl _) _).drew)) | exact HSm.out _ _ _ _ _ _ _ (HM0.out.kept HB7.out ((((Below.refl _ W7).alloc (Nat.le_refl _) _).alloc (by simp) _).drew)) | exact HSm.out _ _ _ _ _ _ _ (M3.out.kept hb3 ((Below.refl _ w3).alloc (Nat.le_refl _) _)) | exact HSm.out _ _ _ _ _ _ _ M7.out
          clear hK K
          try simp only [Act.put, List.setIfInBounds_toArray]
          refine wpAnyS_end (i := 8) (by kernel_rfl) rfl (by kernel_rfl) (fun K hK => ?_)
          go_simp
          refine hK.out _ _ ?_
          clear hK K
          try simp only [Act.put, List.setIfInBounds_toArray, List.set_cons_zero, List.set_cons_succ]
          refine wpAnyS_end (i := 9) (by kernel_rfl) rfl (by kernel_rfl) (fun K hK => ?_)
          go_simp
          refine hK.out _ _ ?_
          clear hK K
          try simp only [Act.put, List.setIfInBounds_toArray, List.set_cons_zero, List.set_cons_succ]
          refine wpAnyS_done (by kernel_rfl) ?_ _
          refine OnlyN.ok ?_
          have h9 := HCL.out _ _ _ M7.out
          exact ⟨h9.1, h9.2.1, _, _, _, _, _, h9.2.2⟩
        · skip
          go_simp
          refine hK.out _ _ ?_ (fun hHeld => ?_)
          · first | exact HS0.out | assumption | exact HSm.out _ _ _ _ _ _ _ (HM0.out.kept HB7.out (((Below.refl _ W7).alloc (Nat.le_refl _) _).drew)) | exact HSm.out _ _ _ _ _ _ _ (HM0.out.kept HB7.out ((((Below.refl _ W7).alloc (Nat.le_refl _) _).alloc (by simp) _).drew)) | exact HSm.out _ _ _ _ _ _ _ (M3.out.kept hb3 ((Below.refl _ w3).alloc (Nat.le_refl _) _)) | exact HSm.out _ _ _ _ _ _ _ M7.out
          clear hK K
          try simp only [Act.put, List.setIfInBounds_toArray, List.set_cons_zero, List.set_cons_succ]
          refine wpAnyS_one (i := 3) (by kernel_rfl) rfl (fun K hK => ?_)
          (refine step_append_row _ rfl _ _ 91 rfl base 69 i69 (.agg #[.int .i64 0, .int .i64 0, .int .i64 0, .int .i64 0, .slice none 0 0]) 5 56 Try.underlying91 ti ti0 ti1 ti2 rfl (by decide) vt TS.length _ rfl (HM0.out.kept HB7.out ((((Below.refl _ W7).alloc (Nat.le_refl _) _).alloc (by simp) _).drew)).ot (some ⟨W7.heap.size, 0, none⟩) 1 1 (tilV [⟨⟨x, y, u, v, cs⟩, Av, UV, cv⟩]) rfl rfl (show Row _ _ _ from ((Row.new_at _ _ _ _ _ W7.heap.size rfl (by rfl)).alloc _).drew) (tilV_one _) bt1 bt2 (Nat.le_trans HB7.out (by first | (simp; done) | (simp; omega))) ?_; intro v3 w3 hown3 hg3 hat3; have M3 := hide ((HM0.out.kept HB7.out ((((Below.refl _ W7).alloc (Nat.le_refl _) _).alloc (by simp) _).drew)).appT (Nat.le_trans HB7.out (by first | (simp; done) | (simp; omega))) hg3 hown3 hat3); have hb3 : base ≤ w3.heap.size := Nat.le_trans (Nat.le_trans HB7.out (by first | (simp; done) | (simp; omega))) hg3.size; have hS3 := HSm.out _ _ _ _ _ _ _ M3.out; obtain ⟨A3, c3, rfl, -, -, -, -, -⟩ := hown3.form)
          refine hK.out _ _ ?_ (fun hHeld => ?_)
          · first | exact HS0.out | assumption | exact HSm.out _ _ _ _ _ _ _ (HM0.out.kept HB7.out (((Below.refl _ W7).alloc (Nat.le_refl _) _).drew)) | exact HSm.out _ _ _ _ _ _ _ (HM0.out.kept HB7.out ((((Below.refl _ W7).alloc (Nat.le_refl _) _).alloc (by simp) _).drew)) | exact HSm.out _ _ _ _ _ _ _ (M3.out.kept hb3 ((Below.refl _ w3).alloc (Nat.le_refl _) _)) | exact HSm.out _ _ _ _ _ _ _ M7.out
          clear hK K
          try simp only [Act.put, List.setIfInBounds_toArray]
          refine wpAnyS_one (i := 7) (by kernel_rfl) rfl (fun K hK => ?_)
          (refine step_append_row _ rfl _ _ 58 rfl base 24 i24 (.agg #[.int .i64 0, .int .i64 0, .slice none 0 0]) 3 40 Try.underlying58 pi pi0 pi1 pi2 rfl (by decide) vp PS.length _ rfl M3.out.op (some ⟨W7.heap.size + 1, 0, none⟩) 1 1 (picVs [⟨⟨u, v, shades ⟨x, y, u, v, cs⟩⟩, A6, UV, c6⟩]) rfl rfl ((show Row _ _ _ from (Row.new_at _ _ _ _ _ (W7.heap.size + 1) rfl (by simp)).drew : Row ((W7.alloc (.cells #[.int .i64 x, .int .i64 y, .int .i64 u, .int .i64 v, .slice Av UV cv] 69)).alloc (.cells #[.int .i64 u, .int .i64 v, .slice A6 UV c6] 24)).drew (some ⟨W7.heap.size + 1, 0, none⟩) (picVs [⟨⟨u, v, shades ⟨x, y, u, v, cs⟩⟩, A6, UV, c6⟩])).grown hg3 (fun b off e e2 => by cases e; have := (HSI.out.ot.lt _ e2.symm).2; omega)) (picVs_one _) bp1 bp2 hb3 ?_; intro v7 w7 hown7 hg7 hat7; have M7 := hide (M3.out.appP hb3 hg7 hown7 hat7); obtain ⟨st7, sp7, -⟩ := HSm.out _ _ _ _ _ _ _ M7.out; obtain ⟨ft7, fp7⟩ := HFm.out _ _ _ _ _ _ _ M7.out; obtain ⟨A7, c7, rfl, -, -, -, -, -⟩ := hown7.form)
          refine hK.out _ _ ?_ (fun hHeld => ?_)
          · first | exact HS0.out | assumption | exact HSm.out _ _ _ _ _ _ _ (HM0.out.kept HB7.out (((Below.refl _ W7).alloc (Nat.le_refl _) _).drew)) | exact HSm.out _ _ _ _ _ _ _ (HM0.out.kept HB7.out ((((Below.refl _ W7).alloc (Nat.le_refl _) _).alloc (by simp) _).drew)) | exact HSm.out _ _ _ _ _ _ _ (M3.out.kept hb3 ((Below.refl _ w3).alloc (Nat.le_refl _) _)) | exact HSm.out _ _ _ _ _ _ _ M7.out
          clear hK K
          try simp only [Act.put]
          refine wpAnyS_end (i := 8) (by kernel_rfl) rfl (by kernel_rfl) (fun K hK => ?_)
          go_simp
          refine hK.out _ _ ?_
          clear hK K
          try simp only [Act.put, List.setIfInBounds_toArray, List.set_cons_zero, List.set_cons_succ]
          refine wpAnyS_end (i := 9) (by kernel_rfl) rfl (by kernel_rfl) (fun K hK => ?_)
          go_simp
          refine hK.out _ _ ?_
          clear hK K
          try simp only [Act.put, List.setIfInBounds_toArray, List.set_cons_zero, List.set_cons_succ]
          refine wpAnyS_done (by kernel_rfl) ?_ _
          refine OnlyN.ok ?_
          have h9 := HCL.out _ _ _ M7.out
          exact ⟨h9.1, h9.2.1, _, _, _, _, _, h9.2.2⟩
      · skip
        go_simp
        refine hK.out _ _ ?_ (fun hHeld => ?_)
        · first | exact HS0.out | assumption | exact HSm.out _ _ _ _ _ _ _ (HM0.out.kept HB7.out (((Below.refl _ W7).alloc (Nat.le_refl _) _).drew)) | exact HSm.out _ _ _ _ _ _ _ (HM0.out.kept HB7.out ((((Below.refl _ W7).alloc (Nat.le_refl _) _).alloc (by simp) _).drew)) | exact HSm.out _ _ _ _ _ _ _ (M3.out.kept hb3 ((Below.refl _ w3).alloc (Nat.le_refl _) _)) | exact HSm.out _ _ _ _ _ _ _ M7.out
        clear hK K
        try simp only [Act.put, List.setIfInBounds_toArray, List.set_cons_zero, List.set_cons_succ]
        refine wpAnyS_one (i := 2) (by kernel_rfl) rfl (fun K hK => ?_)
        go_simp
        refine hK.out _ _ ?_ (fun hHeld => ?_)
        · first | exact HS0.out | assumption | exact HSm.out _ _ _ _ _ _ _ (HM0.out.kept HB7.out (((Below.refl _ W7).alloc (Nat.le_refl _) _).drew)) | exact HSm.out _ _ _ _ _ _ _ (HM0.out.kept HB7.out ((((Below.refl _ W7).alloc (Nat.le_refl _) _).alloc (by simp) _).drew)) | exact HSm.out _ _ _ _ _ _ _ (M3.out.kept hb3 ((Below.refl _ w3).alloc (Nat.le_refl _) _)) | exact HSm.out _ _ _ _ _ _ _ M7.out
        clear hK K
        try simp only [Act.put, List.setIfInBounds_toArray, List.set_cons_zero, List.set_cons_succ]
        refine wpAnyS_one (i := 3) (by kernel_rfl) rfl (fun K hK => ?_)
        (refine step_append_row _ rfl _ _ 91 rfl base 69 i69 (.agg #[.int .i64 0, .int .i64 0, .int .i64 0, .int .i64 0, .slice none 0 0]) 5 56 Try.underlying91 ti ti0 ti1 ti2 rfl (by decide) vt TS.length _ rfl (HM0.out.kept HB7.out ((((Below.refl _ W7).alloc (Nat.le_refl _) _).alloc (by simp) _).drew)).ot (some ⟨W7.heap.size + 1, 0, none⟩) 1 1 (tilV [⟨⟨x, y, u, v, cs⟩, Av, UV, cv⟩]) rfl rfl (show Row _ _ _ from (Row.new_at _ _ _ _ _ (W7.heap.size + 1) rfl (by simp)).drew) (tilV_one _) bt1 bt2 (Nat.le_trans HB7.out (by first | (simp; done) | (simp; omega))) ?_; intro v3 w3 hown3 hg3 hat3; have M3 := hide ((HM0.out.kept HB7.out ((((Below.refl _ W7).alloc (Nat.le_refl _) _).alloc (by simp) _).drew)).appT (Nat.le_trans HB7.out (by first | (simp; done) | (simp; omega))) hg3 hown3 hat3); have hb3 : base ≤ w3.heap.size := Nat.le_trans (Nat.le_trans HB7.out (by first | (simp; done) | (simp; omega))) hg3.size; have hS3 := HSm.out _ _ _ _ _ _ _ M3.out; obtain ⟨A3, c3, rfl, -, -, -, -, -⟩ := hown3.form)
        refine hK.out _ _ ?_ (fun hHeld => ?_)
        · first | exact HS0.out | assumption | exact HSm.out _ _ _ _ _ _ _ (HM0.out.kept HB7.out (((Below.refl _ W7).alloc (Nat.le_refl _) _).drew)) | exact HSm.out _ _ _ _ _ _ _ (HM0.out.kept HB7.out ((((Below.refl _ W7).alloc (Nat.le_refl _) _).alloc (by simp) _).drew)) | exact HSm.out _ _ _ _ _ _ _ (M3.out.kept hb3 ((Below.refl _ w3).alloc (Nat.le_refl _) _)) | exact HSm.out _ _ _ _ _ _ _ M7.out
        clear hK K
        try simp only [Act.put, List.setIfInBounds_toArray]
        refine wpAnyS_one (i := 7) (by kernel_rfl) rfl (fun K hK => ?_)
        (refine step_append_row _ rfl _ _ 58 rfl base 24 i24 (.agg #[.int .i64 0, .int .i64 0, .slice none 0 0]) 3 40 Try.underlying58 pi pi0 pi1 pi2 rfl (by decide) vp PS.length _ rfl M3.out.op (some ⟨W7.heap.size, 0, none⟩) 1 1 (picVs [⟨⟨u, v, shades ⟨x, y, u, v, cs⟩⟩, A6, UV, c6⟩]) rfl rfl ((show Row _ _ _ from ((Row.new_at _ _ _ _ _ W7.heap.size rfl (by rfl)).alloc _).drew : Row ((W7.alloc (.cells #[.int .i64 u, .int .i64 v, .slice A6 UV c6] 24)).alloc (.cells #[.int .i64 x, .int .i64 y, .int .i64 u, .int .i64 v, .slice Av UV cv] 69)).drew (some ⟨W7.heap.size, 0, none⟩) (picVs [⟨⟨u, v, shades ⟨x, y, u, v, cs⟩⟩, A6, UV, c6⟩])).grown hg3 (fun b off e e2 => by cases e; have := (HSI.out.ot.lt _ e2.symm).2; omega)) (picVs_one _) bp1 bp2 hb3 ?_; intro v7 w7 hown7 hg7 hat7; have M7 := hide (M3.out.appP hb3 hg7 hown7 hat7); obtain ⟨st7, sp7, -⟩ := HSm.out _ _ _ _ _ _ _ M7.out; obtain ⟨ft7, fp7⟩ := HFm.out _ _ _ _ _ _ _ M7.out; obtain ⟨A7, c7, rfl, -, -, -, -, -⟩ := hown7.form)
        refine hK.out _ _ ?_ (fun hHeld => ?_)
        · first | exact HS0.out | assumption | exact HSm.out _ _ _ _ _ _ _ (HM0.out.kept HB7.out (((Below.refl _ W7).alloc (Nat.le_refl _) _).drew)) | exact HSm.out _ _ _ _ _ _ _ (HM0.out.kept HB7.out ((((Below.refl _ W7).alloc (Nat.le_refl _) _).alloc (by simp) _).drew)) | exact HSm.out _ _ _ _ _ _ _ (M3.out.kept hb3 ((Below.refl _ w3).alloc (Nat.le_refl _) _)) | exact HSm.out _ _ _ _ _ _ _ M7.out
        clear hK K
        try simp only [Act.put]
        refine wpAnyS_end (i := 8) (by kernel_rfl) rfl (by kernel_rfl) (fun K hK => ?_)
        go_simp
        refine hK.out _ _ ?_
        clear hK K
        try simp only [Act.put, List.setIfInBounds_toArray, List.set_cons_zero, List.set_cons_succ]
        refine wpAnyS_end (i := 9) (by kernel_rfl) rfl (by kernel_rfl) (fun K hK => ?_)
        go_simp
        refine hK.out _ _ ?_
        clear hK K
        try simp only [Act.put, List.setIfInBounds_toArray, List.set_cons_zero, List.set_cons_succ]
        refine wpAnyS_done (by kernel_rfl) ?_ _
        refine OnlyN.ok ?_
        have h9 := HCL.out _ _ _ M7.out
        exact ⟨h9.1, h9.2.1, _, _, _, _, _, h9.2.2⟩
theorem keepsFrom_kept {W W' : World} (h : Kept W W') (base : Nat) : KeepsFrom base W W' := ⟨h.size, fun k _ _ hk _ => (h.block k (Array.getElem?_eq_some_iff.1 hk).1).trans hk⟩
theorem crop_to (P p : PicD) (A : Option Addr) (n cc : Nat) (c f s t : Int) (w : World) (hp : PicAt w P A n cc) (h0 : -9223372036854775808 ≤ s) (h0' : s ≤ 9223372036854775807) (h1 : -9223372036854775808 ≤ t) (h1' : t ≤ 9223372036854775807) (hE : cropE P c f s t = 0) (hP : cropP P c f s t = p) :
    Calls Try.prog 33 #[.agg #[.int .i64 P.a, .int .i64 P.d, .slice A n cc], .int .i64 c, .int .i64 f, .int .i64 s, .int .i64 t] w fun e w' => ∃ A' c', e = .returned (.tuple #[.agg #[.int .i64 p.a, .int .i64 p.d, .slice A' p.g.length c'], .int .i64 0]) ∧ Row w' A' (bytesV p.g) ∧ Kept w w' :=
  (crop_any P A n cc c f s t w hp h0 h0' h1 h1').mono fun e w' hq => by
    rw [hE, hP] at hq
    unfold PutPost at hq
    rw [if_pos rfl] at hq
    obtain ⟨v, rfl, ho, hk⟩ := hq
    obtain ⟨A', c', rfl, -⟩ := ho.form
    exact ⟨A', c', rfl, ho.row, hk⟩

set_option maxRecDepth 100000 in
set_option maxHeartbeats 1600000 in
theorem seam_round2 {l n : Nat} {B : Code} (hBd : (rngs (Try.f11.body.getD Code.skip)).getD 1 Code.skip = B) {u0 u1 u2 u3 u4 u5 u6 u7 u8 u10 u11 u12 u13 u14 u15 u16 u18 u19 u22 u23 u24 u25 u26 u27 u28 u29 u30 u31 u32 u33 u34 u35 u36 u37 u38 u39 u40 u41 u42 u43 u44 u45 u46 u47 u48 u49 u50 u51 u52 u53 u54 u55 u56 u57 u58 u59 u60 u61 u62 u63 u64 u65 u66 u67 u68 u69 u70 u71 u72 u73 u74 u75 u76 u77 u78 u79 u80 u81 u82 u83 u84 u85 u86 u87 u88 u89 u90 u91 u92 u93 u94 u95 u96 u97 u98 u99 u100 u101 u102 u103 u104 u105 u106 u107 u108 u109 u110 u111 u112 u113 u114 u115 u116 u117 u118 u119 u120 u121 u122 u123 u124 u125 u126 u127 u128 u129 u130 u131 u132 u133 u134 u135 u136 u137 u138 u139 u140 u141 u142 u143 u144 u145 u146 u147 u148 u149 u150 u151 u152 u153 u154 u155 u156 u157 u158 u159 u160 u161 u162 u163 u164 u165 u166 u167 : Value} {W : World} {base k L cp Bp Bq Bx nq cq : Nat} {Ap Aq : Option Addr} {ps : List PicD} {P p : PicD} {x y u v : Int}
    (hq0 : W.cell? ⟨Bq, 0, none⟩ = some (.int .i64 P.a)) (hq1 : W.cell? ⟨Bq, 1, none⟩ = some (.int .i64 P.d)) (hq2 : W.cell? ⟨Bq, 2, none⟩ = some (.slice Aq nq cq)) (hPa : PicAt W P Aq nq cq)
    (hp0 : W.cell? ⟨Bp, 0, none⟩ = some (.slice Ap L cp)) (hPs : Pics W Ap ps) (hp : ps[k]? = some p) (hk : k < L)
    (h0 : W.cell? ⟨Bx, 0, none⟩ = some (.int .i64 x)) (h1 : W.cell? ⟨Bx, 1, none⟩ = some (.int .i64 y)) (h2 : W.cell? ⟨Bx, 2, none⟩ = some (.int .i64 u)) (h3 : W.cell? ⟨Bx, 3, none⟩ = some (.int .i64 v))
    (hu0 : 0 ≤ u) (hu1 : u ≤ 65536) (hv0 : 0 ≤ v) (hv1 : v ≤ 65536) (hE : cropE P x y u v = 0) (hP : cropP P x y u v = p) (hgl : p.g.length ≤ 4194304) :
    B.wpIn (Fence.wide.inRound l) n Try.prog (RoundPost base W fun W' => Kept W W') { tmps := #[u0, u1, u2, u3, u4, u5, u6, u7, u8, .pointer (some ⟨Bp, 0, none⟩), u10, u11, u12, u13, u14, u15, u16, .pointer (some ⟨Bq, 0, none⟩), u18, u19, .int .i64 (k : Nat), .pointer (some ⟨Bx, 0, none⟩), u22, u23, u24, u25, u26, u27, u28, u29, u30, u31, u32, u33, u34, u35, u36, u37, u38, u39, u40, u41, u42, u43, u44, u45, u46, u47, u48, u49, u50, u51, u52, u53, u54, u55, u56, u57, u58, u59, u60, u61, u62, u63, u64, u65, u66, u67, u68, u69, u70, u71, u72, u73, u74, u75, u76, u77, u78, u79, u80, u81, u82, u83, u84, u85, u86, u87, u88, u89, u90, u91, u92, u93, u94, u95, u96, u97, u98, u99, u100, u101, u102, u103, u104, u105, u106, u107, u108, u109, u110, u111, u112, u113, u114, u115, u116, u117, u118, u119, u120, u121, u122, u123, u124, u125, u126, u127, u128, u129, u130, u131, u132, u133, u134, u135, u136, u137, u138, u139, u140, u141, u142, u143, u144, u145, u146, u147, u148, u149, u150, u151, u152, u153, u154, u155, u156, u157, u158, u159, u160, u161, u162, u163, u164, u165, u166, u167], defers := [] } W := by
  conv at hBd => lhs; whnf
  subst hBd
  have CO := hide (crop_to P p Aq nq cq x y u v W hPa (by omega) (by omega) (by omega) (by omega) hE hP)
  obtain ⟨bP, oP, A2, n2, c2, rfl, hbl, x0, x1, x2, hat⟩ := Pics.at_ hPs hp
  have HAT := hide hat
  have hkL : (k : Int) < (L : Int) := by omega
  have HX := hide (And.intro hp0 (And.intro x0 (And.intro x1 x2)))
  clear hPa hPs hp hE hP hat x0 x1 x2
  gi_wp2
  refine ⟨trivial, fun h0 => by simp [Fence.wide] at h0, (callsIn_round CO.out).mono ?_⟩
  rintro e w6 ⟨A6, c6, rfl, hr6, hk6⟩
  obtain ⟨W7, hW7⟩ : ∃ W7, W7 = w6.alloc (.cells #[.int .i64 p.a, .int .i64 p.d, .slice A6 p.g.length c6] 24) := ⟨_, rfl⟩
  have k67 : Kept w6 W7 := by rw [hW7]; exact (Below.refl _ _).alloc (Nat.le_refl _) _
  have p0 : W7.cell? ⟨w6.heap.size, 0, none⟩ = some (.int .i64 p.a) := by rw [hW7]; simp
  have p1 : W7.cell? ⟨w6.heap.size, 1, none⟩ = some (.int .i64 p.d) := by rw [hW7]; simp
  have p2 : W7.cell? ⟨w6.heap.size, 2, none⟩ = some (.slice A6 p.g.length c6) := by rw [hW7]; simp
  have K7 := hide (Kept.trans' hk6 k67)
  have HS : Hid (∀ Z, Kept W7 Z → (Z.cell? ⟨w6.heap.size, 0, none⟩ = some (.int .i64 p.a) ∧ Z.cell? ⟨w6.heap.size, 1, none⟩ = some (.int .i64 p.d) ∧ Z.cell? ⟨w6.heap.size, 2, none⟩ = some (.slice A6 p.g.length c6) ∧ Z.cell? ⟨Bp, 0, none⟩ = some (.slice (some ⟨bP, oP, none⟩) L cp) ∧ Z.cell? ⟨bP, oP + k * 3, none⟩ = some (.int .i64 p.a) ∧ Z.cell? ⟨bP, oP + k * 3 + 1, none⟩ = some (.int .i64 p.d) ∧ Z.cell? ⟨bP, oP + k * 3 + 2, none⟩ = some (.slice A2 n2 c2))) := fun Z hZ => by
    have kZ := K7.out.trans' hZ
    obtain ⟨a0, a1, a2, a3⟩ := HX.out
    exact ⟨(hZ.cells _ _ (lt_of_cell p0)).trans p0, (hZ.cells _ _ (lt_of_cell p1)).trans p1, (hZ.cells _ _ (lt_of_cell p2)).trans p2, (kZ.cells _ _ (lt_of_cell a0)).trans a0, (kZ.cells _ _ (lt_of_cell a1)).trans a1, (kZ.cells _ _ (lt_of_cell a2)).trans a2, (kZ.cells _ _ (lt_of_cell a3)).trans a3⟩
  have HD : Hid (Kept W7 W7.drew) := (Below.refl _ _).drew
  have HS0 := hide (HS.out _ HD.out)
  have CS : Hid (∀ Z, Kept W7 Z → Calls Try.prog 21 #[.agg #[.int .i64 p.a, .int .i64 p.d, .slice A6 p.g.length c6], .agg #[.int .i64 p.a, .int .i64 p.d, .slice A2 n2 c2]] Z fun e w' => e = .returned (.bool true) ∧ Kept Z w') := fun Z hZ => by
    have := same_any p.a p.d p.a p.d A6 A2 p.g.length c6 n2 c2 p.g p.g Z (by omega) rfl HAT.out.len (hr6.kept (Kept.trans' k67 hZ)) ((HAT.out.row.kept K7.out).kept hZ)
    rwa [show sameB p.a p.d p.a p.d p.g p.g = true by simp [sameB]] at this
  clear hr6 hk6 k67 p0 p1 p2 hq0 hq1 hq2 hp0 h0 h1 h2 h3
  gi_wp2
  rw [← hW7]
  clear hW7
  refine wpIn_region_L (fun Z : World => (Z.cell? ⟨w6.heap.size, 0, none⟩ = some (.int .i64 p.a) ∧ Z.cell? ⟨w6.heap.size, 1, none⟩ = some (.int .i64 p.d) ∧ Z.cell? ⟨w6.heap.size, 2, none⟩ = some (.slice A6 p.g.length c6) ∧ Z.cell? ⟨Bp, 0, none⟩ = some (.slice (some ⟨bP, oP, none⟩) L cp) ∧ Z.cell? ⟨bP, oP + k * 3, none⟩ = some (.int .i64 p.a) ∧ Z.cell? ⟨bP, oP + k * 3 + 1, none⟩ = some (.int .i64 p.d) ∧ Z.cell? ⟨bP, oP + k * 3 + 2, none⟩ = some (.slice A2 n2 c2))) 999 (by kernel_rfl) (by kernel_rfl) ?_ (fun hHeld => ?_)
  · first | exact HS0.out | assumption
  refine wpAnyL_take (i := 0) (v := ?_) (some 156) rfl rfl (by kernel_rfl) (by kernel_rfl) (by kernel_rfl) (by kernel_rfl) (fun _ _ _ h => h) (Or.inl ⟨by rfl, ?_⟩) (by assumption) ?_
  rotate_left
  · intro w hSw; (try dsimp only at hSw); go_simp; (try with_reducible rfl)
  try simp only [Act.put, List.setIfInBounds_toArray, List.set_cons_zero, List.set_cons_succ]
  refine wpAnyL_take (i := 1) (v := Value.bool false) (some 157) rfl rfl (by kernel_rfl) (by kernel_rfl) (by kernel_rfl) (by kernel_rfl) (fun _ _ _ h => h) (Or.inl ⟨by rfl, ?_⟩) (by assumption) ?_
  · intro w hSw; (try dsimp only at hSw); go_simp
  try simp only [Act.put, List.setIfInBounds_toArray, List.set_cons_zero, List.set_cons_succ]
  refine wpAnyL_take (i := 2) (v := Value.bool false) (some 158) rfl rfl (by kernel_rfl) (by kernel_rfl) (by kernel_rfl) (by kernel_rfl) (fun _ _ _ h => h) (Or.inl ⟨by rfl, ?_⟩) (by assumption) ?_
  · intro w hSw; (try dsimp only at hSw); go_simp
  try simp only [Act.put, List.setIfInBounds_toArray, List.set_cons_zero, List.set_cons_succ]
  refine wpAnyL_take (i := 3) (v := ?_) (some 159) rfl rfl (by kernel_rfl) (by kernel_rfl) (by kernel_rfl) (by kernel_rfl) (fun _ _ _ h => h) (Or.inl ⟨by rfl, ?_⟩) (by assumption) ?_
  rotate_left
  · intro w hSw; (try dsimp only at hSw); go_simp; (try with_reducible rfl)
  try simp only [Act.put, List.setIfInBounds_toArray, List.set_cons_zero, List.set_cons_succ]
  refine wpAnyL_take (i := 4) (v := ?_) (some 160) rfl rfl (by kernel_rfl) (by kernel_rfl) (by kernel_rfl) (by kernel_rfl) (fun _ _ _ h => h) (Or.inl ⟨by rfl, ?_⟩) (by assumption) ?_
  rotate_left
  · intro w hSw; (try dsimp only at hSw); go_simp; (try with_reducible rfl)
  try simp only [Act.put, List.setIfInBounds_toArray, List.set_cons_zero, List.set_cons_succ]
  refine wpAnyL_take (i := 5) (v := ?_) (some 161) rfl rfl (by kernel_rfl) (by kernel_rfl) (by kernel_rfl) (by kernel_rfl) (fun _ _ _ h => h) (Or.inl ⟨by rfl, ?_⟩) (by assumption) ?_
  rotate_left
  · intro w hSw; (try dsimp only at hSw); go_simp; (try with_reducible rfl)
  try simp only [Act.put, List.setIfInBounds_toArray, List.set_cons_zero, List.set_cons_succ]
  refine wpAnyL_take (i := 6) (v := ?_) (some 162) rfl rfl (by kernel_rfl) (by kernel_rfl) (by kernel_rfl) (by kernel_rfl) (fun _ _ _ h => h) (Or.inl ⟨by rfl, ?_⟩) (by assumption) ?_
  rotate_left
  · intro w hSw; (try dsimp only at hSw); go_simp; (try with_reducible rfl)
  try simp only [Act.put, List.setIfInBounds_toArray, List.set_cons_zero, List.set_cons_succ]
  refine wpAnyL_take (i := 7) (v := ?_) (some 163) rfl rfl (by kernel_rfl) (by kernel_rfl) (by kernel_rfl) (by kernel_rfl) (fun _ _ _ h => h) (Or.inl ⟨by rfl, ?_⟩) (by assumption) ?_
  rotate_left
  · intro w hSw; (try dsimp only at hSw); go_simp; (try with_reducible rfl)
  try simp only [Act.put, List.setIfInBounds_toArray, List.set_cons_zero, List.set_cons_succ]
  refine wpAnyL_one (i := 8) (by kernel_rfl) rfl (fun K hK => ?_)
  go_simp
  (refine (CS.out _ HD.out).mono ?_; rintro e w8 ⟨rfl, hk8⟩; have K8 := hide (HD.out.trans' hk8); have hS8 := HS.out w8 K8.out; clear hk8)
  refine hK.out _ _ ?_ (fun hHeld => ?_)
  · first | exact HS0.out | assumption
  clear hK K
  try simp only [Act.put, List.setIfInBounds_toArray, List.set_cons_zero, List.set_cons_succ]
  refine wpAnyL_take (i := 9) (v := Value.bool false) (some 165) rfl rfl (by kernel_rfl) (by kernel_rfl) (by kernel_rfl) (by kernel_rfl) (fun _ _ _ h => h) (Or.inl ⟨by rfl, ?_⟩) (by assumption) ?_
  · intro w hSw; (try dsimp only at hSw); go_simp
  try simp only [Act.put, List.setIfInBounds_toArray, List.set_cons_zero, List.set_cons_succ]
  refine wpAnyL_take (i := 10) (v := Value.bool false) (some 166) rfl rfl (by kernel_rfl) (by kernel_rfl) (by kernel_rfl) (by kernel_rfl) (fun _ _ _ h => h) (Or.inl ⟨by rfl, ?_⟩) (by assumption) ?_
  · intro w hSw; (try dsimp only at hSw); go_simp
  try simp only [Act.put, List.setIfInBounds_toArray, List.set_cons_zero, List.set_cons_succ]
  refine wpAnyL_done (by kernel_rfl) ?_ _
  refine OnlyN.ok ?_
  clear hS8
  have K9 := hide (K7.out.trans' K8.out)
  gi_wp2
  exact ⟨keepsFrom_kept K9.out _, K9.out⟩
end Go.Proofs.Ytbhgcbgaadnfpaa
