/- Texts of one claim laid together: LwC, OpR, RefineOrderF, FacR. -/
import Derived.Test.YtfdnledkcongaaaGreatDoorQ15
import Derived.Test.YtfdnledkcongaaaGreatDoorRows
import Derived.OpenShut
import Derived.LaidMore
import Derived.ProofKit
import Derived.Stop.Joined
import Derived.Deep.Slices
import Derived.ChangeSame
import Derived.Test.YtfdnledkcongaaaGreatDoorCards
import Derived.JoinedOf
set_option linter.all false
namespace Go.Proofs.YtfdnledkcongaaaGreatDoor
open Go.RowKit Go.Proofs.Tryz
section
attribute [local go_sem] qah qae
def qdI (n : Int) : qdn := ⟨1, 0, 0, n, ⟨⟨false, ⟨#[]⟩, 0⟩, ⟨false, ⟨#[]⟩, 0⟩⟩, ⟨#[]⟩⟩
theorem qkg (n : Int) : (qdI n).ok := by
 have h : DyD.ok ⟨false, ⟨#[]⟩, 0⟩ := ⟨by decide, by decide, by decide⟩
 exact ⟨rfl, rfl, .inl rfl, h, h⟩
theorem qgv : ∀ {l : List qdn}, (∀ x ∈ l, x.g.re.ok ∧ x.g.im.ok) → ∀ x ∈ qc l, x.ok
 | [], _, x, hx => by cases hx
 | s :: l, h, x, hx => by
  unfold qc at hx
  split at hx
  ·rcases List.mem_cons.1 hx with rfl | hx
   ·obtain ⟨h1, h2⟩ := h s (List.mem_cons_self ..)
    exact ⟨rfl, rfl, .inr rfl, h1, h2⟩
   ·exact qgv (fun y hy => h y (List.mem_cons_of_mem _ hy)) x hx
  ·exact qgv (fun y hy => h y (List.mem_cons_of_mem _ hy)) x hx
theorem qbF {P : Program} (w : World) {ops : Array Oper} {o : Oper} {a : Act} {K : Act → World → Prop} {Q : Exit → Act → World → Prop} {E : Prop} (hgd : Region.wanted o (yielded ops a.tmps) = true) (s x : Operand) (t : TypeId)
  (ho : o.op = .call { callee := .builtin .append, args := #[s, x], argTypes := #[t, t] })
  (base : Nat) (e : TypeId) (i : TypeInfo) (z : Value) (size bytes : Nat) (ht : P.underlying t = some (.slice e)) (hi : P.info? e = some i) (hz : i.zero = some z)
  (hsize : i.size = size) (hby : i.bytes = bytes) (hzs : z.cells.size = size) (hsz : 0 < size)
  (v : Value) (n : Nat) (xs : List Value) (hs : a.eval s = v) (hown : Own w base size v n xs)
  (A : Option Addr) (m c : Nat) (news : List Value) (hx : a.eval x = .slice A m c) (hl : news.length = m * size) (hr : Row w A news) (h1 : ∀ u ∈ news, u.oneCell' = true)
  (h63 : n + m ≤ maxLen) (hbytes : (n + m) * bytes ≤ 140737488355328) (hbase : base ≤ w.heap.size)
  (h : ∀ v' w', Own w' base size v' (n + m) (xs ++ news) → w.grownBy w' v.ownBlock → (v'.ownBlock = v.ownBlock ∨ ∀ k, v'.ownBlock = some k → w.heap.size ≤ k) → K (a.put o.dst v') w') :
  if Region.wanted o (yielded ops a.tmps) = true then Oper.wp P o a w K Q else E := by
 rw [if_pos hgd]
 obtain ⟨v', w', hrun, h2, h3, h4⟩ := qcC (P := P) w base t o.type e i z size bytes ht hi hz hsize hby hzs hsz v n xs hown A m c news hl hr h1 h63 hbytes hbase
 unfold Oper.wp execOp
 simp only [ho, resolve, invoke, builtin, Sem.run_bind, Sem.run_pure, Result.andThen_ok, List.map_toArray, List.map_cons, List.map_nil, hs, hx, hrun]
 exact h v' w' h2 h3 h4
set_option maxRecDepth 100000 in
set_option maxHeartbeats 6400000 in
theorem qjM {w : World} {s : SqD} {u : RuD} {A : Option Addr} {c : Nat} {l : List qdn} {G H : GsD} {a b : Int} (hs : s.ok) (hu : u.ok) (hl : ∀ x ∈ l, x.g.re.ok ∧ x.g.im.ok) (hr : Row w A (qcm l)) (hby : l.length * 112 + 112 ≤ 140737488355328) (hc : l.length ≤ c) (hcm : c ≤ maxLen)
  (hgr : G.re.ok) (hgi : G.im.ok) (hhr : H.re.ok) (hhi : H.im.ok) (hT : T32 w) :
  Calls prog 3 #[.agg #[.bool s.left.neg, .string s.left.n, .int .i64 s.left.e, .bool s.low.neg, .string s.low.n, .int .i64 s.low.e, .int .i64 s.e], .agg (ruL u).toArray, .slice A l.length c, .agg #[.bool G.re.neg, .string G.re.n, .int .i64 G.re.e, .bool G.im.neg, .string G.im.n, .int .i64 G.im.e], .agg #[.bool H.re.neg, .string H.re.n, .int .i64 H.re.e, .bool H.im.neg, .string H.im.n, .int .i64 H.im.e], .int .i64 a, .int .i64 b] w fun en w' => en = .returned (.bool true) ∧ Kept w w' := by
 have hgl := lt_of_cell (hT 0 (by omega))
 have AW := qh (fun W (hk : Kept w W) => qlF (hT.kept hk) (Nat.lt_of_lt_of_le hgl hk.size))
 have OW := qh (fun W (hk : Kept w W) => qoq (hr.kept hk) hby hc hcm)
 have BK := qh (fun W A c n (hr : Row W A (qcm (qc l ++ [qdI n]))) hc hcm => qlI (w := W) (A := A) (c := c) hs hu (fun x hx => by rcases List.mem_append.1 hx with hx | hx; exact qgv hl x hx; rw [List.mem_singleton] at hx; subst hx; exact qkg n) hr hc hcm)
 have NW := qh (fun W (hk : Kept w W) => new_any (w := W) s hs hu (hT.kept hk))
 have HT := qh hT
 have HU := qh hu
 have HGL := qh hgl
 have HLL := qh (qhf l)
 have HOK := qh (qgv hl)
 have HGR := qh (And.intro hgr hgi)
 have HHR := qh (And.intro hhr hhi)
 have hml : maxLen = 9223372036854775807 := rfl
 obtain ⟨L, hL⟩ : ∃ L, L = qc l := ⟨_, rfl⟩
 rw [← hL] at OW BK HLL HOK
 obtain ⟨N0, hN0⟩ : ∃ N0, N0 = l.length := ⟨_, rfl⟩
 rw [← hN0] at hby HLL hc OW ⊢
 obtain ⟨U, hU⟩ : ∃ U, U = u := ⟨_, rfl⟩
 rw [← hU] at NW BK HU
 have HUU := qh hU
 obtain ⟨SS, hSS⟩ : ∃ SS, SS = s := ⟨_, rfl⟩
 rw [← hSS] at NW BK
 have HSS := qh hSS
 obtain ⟨⟨a0, a1, a2⟩, ⟨a3, a4, a5⟩, a6⟩ := s
 obtain ⟨uk, ⟨⟨u0, u1, u2⟩, ⟨u3, u4, u5⟩⟩, ⟨u6, u7, u8⟩, ux, uy⟩ := u
 simp only
 have hRU : (ruL U).toArray = #[.int .i64 uk, .bool u0, .string u1, .int .i64 u2, .bool u3, .string u4, .int .i64 u5, .bool u6, .string u7, .int .i64 u8, .float .f64 ux, .float .f64 uy] := by rw [hU]
 have HRU := qh hRU
 have HBY := qh hby
 clear hs hu hl hr hgr hgi hhr hhi hT hgl hL hN0 hU hSS hRU hby
 go_enter func3, ntmps3
 go_upto_region 1 with fail
 obtain ⟨bk, w1, hw, hb, B0, B1, B2, B3, K1, HB⟩ := qoN w (LC3 a0 a1 a2 a3 a4 a5 a6) 26 [.int .i64 uk, .bool u0, .string u1, .int .i64 u2, .bool u3, .string u4, .int .i64 u5, .bool u6, .string u7, .int .i64 u8, .float .f64 ux, .float .f64 uy] 31 (LC1 G.re.neg G.re.n G.re.e G.im.neg G.im.n G.im.e) 28 (LC1 H.re.neg H.re.n H.re.e H.im.neg H.im.n H.im.e) 28
 rw [← hw, ← hb]; clear hw hb
 have haw := AW.out w1 K1.out
 go_upto_region 3 with (go_at_call 6; (with_reducible refine haw.mono ?_); rintro e w2 ⟨rfl, hk2⟩; have K2 := qh (K1.out.trans' hk2); have J2 := qh hk2; clear hk2 haw)
 have how := OW.out w2 K2.out
 go_upto_region 4 with (go_at_call 7; (with_reducible refine how.mono ?_); rintro e w3 ⟨x, rfl, hO3, hk3⟩; have K3 := qh (K2.out.trans' hk3); have J3 := qh (J2.out.trans' hk3); have HO := qh hO3; clear hk3 how hO3)
 clear AW OW J2
 obtain ⟨A2, c2, rfl, hc2, hcm2, hrow2, -, -⟩ := HO.out.form
 obtain ⟨M, hM⟩ : ∃ M, M = L.length := ⟨_, rfl⟩
 have HMM := qh hM
 rw [← hM] at HO hc2 HLL ⊢
 have HRW := qh hrow2
 have HC2 := qh (And.intro hc2 hcm2)
 clear hM hrow2 hc hcm hc2 hcm2
 go_cut [57] from 35 to 57 (fun v57 wy => ∃ bb : Bool, v57 = .bool bb ∧ (bb = false → M + 1 ≤ 60 ∧ 0 ≤ a ∧ a ≤ b ∧ b ≤ 40) ∧ Kept w3 wy)
 case first =>
  have hS0 : Kept w3 w3.drew := (Below.refl _ w3).drew
  by_cases ha : a < 0
  ·skip
   refine qab (fun W => Kept w3 W) [22] (by kernel_rfl) ?_ (fun hHeld => ?_)
   ·assumption
   refine wS 0 35 ?_
   refine wS 1 36 ?_
   refine wS 2 37 ?_
   refine zS 3 38 ?_
   refine zS 4 39 ?_
   refine zS 5 40 ?_
   refine wS 6 41 ?_
   refine wS 7 42 ?_
   refine zS 8 43 ?_
   refine zS 9 44 ?_
   refine wS 10 45 ?_
   refine wS 11 46 ?_
   refine zS 12 47 ?_
   refine zS 13 48 ?_
   refine zS 14 49 ?_
   refine zS 15 50 ?_
   refine zS 16 51 ?_
   refine zS 17 52 ?_
   refine zS 18 53 ?_
   refine zS 19 54 ?_
   refine zS 20 55 ?_
   refine zS 21 56 ?_
   refine eS 22 fun K hK => ?_
   go_simp
   refine hK.out _ _ ?_
   clear hK K
   try simp only [Act.put, tdy]
   refine dS ?_ _
   go_wp2_with fail
   go_meet
   exact ⟨true, rfl, fun h => (by cases h), hS0⟩
  ·by_cases hb : b < a
   ·skip
    refine qab (fun W => Kept w3 W) [22] (by kernel_rfl) ?_ (fun hHeld => ?_)
    ·assumption
    refine wS 0 35 ?_
    refine wS 1 36 ?_
    refine wS 2 37 ?_
    refine wS 3 38 ?_
    refine wS 4 39 ?_
    refine wS 5 40 ?_
    refine wS 6 41 ?_
    refine wS 7 42 ?_
    refine zS 8 43 ?_
    refine zS 9 44 ?_
    refine wS 10 45 ?_
    refine wS 11 46 ?_
    refine zS 12 47 ?_
    refine zS 13 48 ?_
    refine zS 14 49 ?_
    refine zS 15 50 ?_
    refine zS 16 51 ?_
    refine zS 17 52 ?_
    refine zS 18 53 ?_
    refine zS 19 54 ?_
    refine zS 20 55 ?_
    refine zS 21 56 ?_
    refine eS 22 fun K hK => ?_
    go_simp
    refine hK.out _ _ ?_
    clear hK K
    try simp only [Act.put, tdy]
    refine dS ?_ _
    go_wp2_with fail
    go_meet
    exact ⟨true, rfl, fun h => (by cases h), hS0⟩
   by_cases hd : 40 < b
   ·skip
    refine qab (fun W => Kept w3 W) [22] (by kernel_rfl) ?_ (fun hHeld => ?_)
    ·assumption
    refine wS 0 35 ?_
    refine wS 1 36 ?_
    refine wS 2 37 ?_
    refine wS 3 38 ?_
    refine wS 4 39 ?_
    refine wS 5 40 ?_
    refine wS 6 41 ?_
    refine wS 7 42 ?_
    refine wS 8 43 ?_
    refine wS 9 44 ?_
    refine wS 10 45 ?_
    refine wS 11 46 ?_
    refine zS 12 47 ?_
    refine zS 13 48 ?_
    refine zS 14 49 ?_
    refine zS 15 50 ?_
    refine zS 16 51 ?_
    refine zS 17 52 ?_
    refine zS 18 53 ?_
    refine zS 19 54 ?_
    refine zS 20 55 ?_
    refine zS 21 56 ?_
    refine eS 22 fun K hK => ?_
    go_simp
    refine hK.out _ _ ?_
    clear hK K
    try simp only [Act.put, tdy]
    refine dS ?_ _
    go_wp2_with fail
    go_meet
    exact ⟨true, rfl, fun h => (by cases h), hS0⟩
   have SK : Hid (∀ W, Kept w3 W → Bx W bk (LC3 a0 a1 a2 a3 a4 a5 a6) ∧ Bx W (bk + 1) [.int .i64 uk, .bool u0, .string u1, .int .i64 u2, .bool u3, .string u4, .int .i64 u5, .bool u6, .string u7, .int .i64 u8, .float .f64 ux, .float .f64 uy]) := qh fun W hk => ⟨B0.out.kept (J3.out.trans' hk), B1.out.kept (J3.out.trans' hk)⟩
   have hS1 := SK.out _ hS0
   refine qab (fun W => Bx W bk (LC3 a0 a1 a2 a3 a4 a5 a6) ∧ Bx W (bk + 1) [.int .i64 uk, .bool u0, .string u1, .int .i64 u2, .bool u3, .string u4, .int .i64 u5, .bool u6, .string u7, .int .i64 u8, .float .f64 ux, .float .f64 uy]) [22] (by kernel_rfl) ?_ (fun hHeld => ?_)
   ·assumption
   refine wS 0 35 ?_
   refine wS 1 36 ?_
   refine wS 2 37 ?_
   refine wS 3 38 ?_
   refine wS 4 39 ?_
   refine wS 5 40 ?_
   refine wS 6 41 ?_
   refine wS 7 42 ?_
   refine wS 8 43 ?_
   refine wS 9 44 ?_
   refine wS 10 45 ?_
   refine wS 11 46 ?_
   refine yS (v := .agg #[.bool a0, .string a1, .int .i64 a2, .bool a3, .string a4, .int .i64 a5, .int .i64 a6]) 12 47 ?_ ?_
   ·intro w hSw; (try dsimp only at hSw); exact qaw (vs := (LC3 a0 a1 a2 a3 a4 a5 a6)) (n := 7) _ rfl rfl hSw.1 rfl underlying26 rfl (by kernel_rfl)
   try simp only [Act.put, tdy]
   refine yS (v := .agg #[.int .i64 uk, .bool u0, .string u1, .int .i64 u2, .bool u3, .string u4, .int .i64 u5, .bool u6, .string u7, .int .i64 u8, .float .f64 ux, .float .f64 uy]) 13 48 ?_ ?_
   ·intro w hSw; (try dsimp only at hSw); exact qaw (vs := [.int .i64 uk, .bool u0, .string u1, .int .i64 u2, .bool u3, .string u4, .int .i64 u5, .bool u6, .string u7, .int .i64 u8, .float .f64 ux, .float .f64 uy]) (n := 12) _ rfl rfl hSw.2 rfl underlying31 rfl (by kernel_rfl)
   try simp only [Act.put, tdy]
   refine wS 15 50 ?_
   refine wS 17 52 ?_
   refine wS 18 53 ?_
   obtain ⟨n3, hn3⟩ : ∃ n3, n3 = w3.heap.size := ⟨_, rfl⟩
   have HN3 := qh hn3
   obtain ⟨j0, hj1, hj2, hj3, hj5⟩ := info_parts qkO
   have HLEN := qh (show (L ++ [qdI b]).length = M + 1 by rw [List.length_append, ← HMM.out]; rfl)
   have HHB := qh (show M ≤ 1256584717457 by have := HLL.out; have := HBY.out; omega)
   have hM3 := HHB.out
   have RK : Hid (∀ X X' v n xs, Kept w3 X → Own X n3 11 v n xs → X.grownBy X' v.ownBlock → Kept w3 X') := qh fun X X' v n xs hk ho hg => qa6 hk ho (Nat.le_of_eq HN3.out.symm) (Nat.le_trans (Nat.le_of_eq HN3.out) hk.size) hg
   clear hn3
   refine tS 14 19 (fun K hK => ?_) (fun K hK => ?_)
   ·skip
    go_simp
    (have K14 : Kept w3 (w3.alloc (.cells #[] 37)).drew := ((Below.refl _ w3).alloc (Nat.le_refl _) _).drew; have O14 := (Own.new w3 #[] 37 (0, 0) 0 11 [] n3 w3.heap.size rfl (Nat.le_of_eq HN3.out) (by unfold maxLen; omega) rfl rfl (by simp)).drew; have hS14 := SK.out _ K14)
    refine hK.out _ _ ?_ (fun hHeld => ?_)
    ·assumption
    clear hK K
    try simp only [Act.put, tdy]
    refine tS 16 19 (fun K hK => ?_) (fun K hK => ?_)
    ·skip
     (refine qbF _ (by rfl) _ _ 32 rfl n3 37 j0 (.agg ZL5.toArray) 11 112 underlying32 hj1 hj2 hj3 hj5 rfl (by decide) (.slice (some ⟨w3.heap.size, 0, none⟩) 0 0) 0 [] rfl O14 A2 M c2 (qcm L) rfl (by rw [qbY, HMM.out]) (HRW.out.kept K14) (qbJ L) (by unfold maxLen; omega) (by omega) (Nat.le_trans (Nat.le_of_eq HN3.out) K14.size) ?_; intro v16 w16 hown16 hg16 hat16; simp only [Nat.zero_add, List.nil_append] at hown16; have K16 := RK.out _ _ _ _ _ K14 O14 hg16; obtain ⟨A16, c16, rfl, hc16, hm16, hrw16, -, -⟩ := hown16.form; have hS16 := SK.out _ K16)
     refine hK.out _ _ ?_ (fun hHeld => ?_)
     ·assumption
     clear hK K
     try simp only [Act.put, List.setIfInBounds_toArray]
     refine oS 19 fun K hK => ?_
     go_simp
     (have K19 := K16.trans' (Kept.new (Below.refl _ w16) (.cells #[.int .i64 1, .int .i64 0, .int .i64 0, .int .i64 b, .bool false, .string ⟨#[]⟩, .int .i64 0, .bool false, .string ⟨#[]⟩, .int .i64 0, .string ⟨#[]⟩] 37)); have O19 := hown16.alloc (.cells #[.int .i64 1, .int .i64 0, .int .i64 0, .int .i64 b, .bool false, .string ⟨#[]⟩, .int .i64 0, .bool false, .string ⟨#[]⟩, .int .i64 0, .string ⟨#[]⟩] 37); have hS19 := SK.out _ K19)
     refine hK.out _ _ ?_ (fun hHeld => ?_)
     ·assumption
     clear hK K
     try simp only [Act.put, tdy]
     refine oS 20 fun K hK => ?_
     (refine qbF _ (by rfl) _ _ 32 rfl n3 37 j0 (.agg ZL5.toArray) 11 112 underlying32 hj1 hj2 hj3 hj5 rfl (by decide) (.slice A16 M c16) M (qcm L) rfl O19 (some ⟨w16.heap.size, 0, none⟩) 1 1 (stV (qdI b)) rfl rfl (Row.qbA _ _ _ _ _ _ rfl rfl) (by rw [← qcY]; exact qbJ _) (by unfold maxLen; omega) (by omega) (Nat.le_trans (Nat.le_of_eq HN3.out) K19.size) ?_; intro v20 w20 hown20 hg20 hat20; have K20 := RK.out _ _ _ _ _ K19 O19 hg20; obtain ⟨A20, c20, rfl, hc20, hm20, hrw20, -, -⟩ := hown20.form; have hS20 := SK.out _ K20)
     refine hK.out _ _ ?_ (fun hHeld => ?_)
     ·assumption
     clear hK K
     try simp only [Act.put, List.setIfInBounds_toArray]
     refine oS 21 fun K hK => ?_
     go_simp
     (have hbk := BK.out w20 A20 c20 b (by rw [qc8, qcY]; exact hrw20) (by rw [List.length_append, ← HMM.out]; exact hc20) hm20; rw [HLEN.out, HRU.out, HSS.out] at hbk; (with_reducible refine hbk.mono ?_); rintro en w21 ⟨bb, rfl, h60, hk21⟩; have K21 := K20.trans' hk21; have hS21 := SK.out _ K21)
     refine hK.out _ _ ?_ (fun hHeld => ?_)
     ·assumption
     clear hK K
     try simp only [Act.put, tdy]
     refine eS 22 fun K hK => ?_
     go_simp
     refine hK.out _ _ ?_
     clear hK K
     try simp only [Act.put, tdy]
     refine dS ?_ _
     go_wp2_with fail
     go_meet
     exact ⟨bb, rfl, fun h => ⟨h60 h, by omega, by omega, by omega⟩, K21⟩
    ·skip
     go_simp
     (have K19 : Kept w3 ((w3.alloc (.cells #[] 37)).alloc (.cells #[.int .i64 1, .int .i64 0, .int .i64 0, .int .i64 b, .bool false, .string ⟨#[]⟩, .int .i64 0, .bool false, .string ⟨#[]⟩, .int .i64 0, .string ⟨#[]⟩] 37)).drew := (((Below.refl _ w3).alloc (Nat.le_refl _) _).alloc (by simp) _).drew; have O19 := ((Own.new w3 #[] 37 (0, 0) 0 11 [] n3 w3.heap.size rfl (Nat.le_of_eq HN3.out) (by unfold maxLen; omega) rfl rfl (by simp)).alloc (.cells #[.int .i64 1, .int .i64 0, .int .i64 0, .int .i64 b, .bool false, .string ⟨#[]⟩, .int .i64 0, .bool false, .string ⟨#[]⟩, .int .i64 0, .string ⟨#[]⟩] 37)).drew; have R19 : Row ((w3.alloc (.cells #[] 37)).alloc (.cells #[.int .i64 1, .int .i64 0, .int .i64 0, .int .i64 b, .bool false, .string ⟨#[]⟩, .int .i64 0, .bool false, .string ⟨#[]⟩, .int .i64 0, .string ⟨#[]⟩] 37)).drew (some ⟨w3.heap.size + 1, 0, none⟩) (stV (qdI b)) := (Row.qbA (w3.alloc (.cells #[] 37)) _ 37 _ _ (w3.heap.size + 1) rfl (by simp)).drew; have hS19 := SK.out _ K19)
     refine hK.out _ _ ?_ (fun hHeld => ?_)
     ·assumption
     clear hK K
     try simp only [Act.put, tdy]
     refine oS 16 fun K hK => ?_
     (refine qbF _ (by rfl) _ _ 32 rfl n3 37 j0 (.agg ZL5.toArray) 11 112 underlying32 hj1 hj2 hj3 hj5 rfl (by decide) (.slice (some ⟨w3.heap.size, 0, none⟩) 0 0) 0 [] rfl O19 A2 M c2 (qcm L) rfl (by rw [qbY, HMM.out]) (HRW.out.kept K19) (qbJ L) (by unfold maxLen; omega) (by omega) (Nat.le_trans (Nat.le_of_eq HN3.out) K19.size) ?_; intro v16 w16 hown16 hg16 hat16; simp only [Nat.zero_add, List.nil_append] at hown16; have K16 := RK.out _ _ _ _ _ K19 O19 hg16; obtain ⟨A16, c16, rfl, hc16, hm16, hrw16, -, -⟩ := hown16.form; have hS16 := SK.out _ K16; have R16 := R19.grown hg16 (fun x off e => by cases e; simp [Value.ownBlock]))
     refine hK.out _ _ ?_ (fun hHeld => ?_)
     ·assumption
     clear hK K
     try simp only [Act.put, List.setIfInBounds_toArray]
     refine oS 20 fun K hK => ?_
     (refine qbF _ (by rfl) _ _ 32 rfl n3 37 j0 (.agg ZL5.toArray) 11 112 underlying32 hj1 hj2 hj3 hj5 rfl (by decide) (.slice A16 M c16) M (qcm L) rfl hown16 (some ⟨w3.heap.size + 1, 0, none⟩) 1 1 (stV (qdI b)) rfl rfl R16 (by rw [← qcY]; exact qbJ _) (by unfold maxLen; omega) (by omega) (Nat.le_trans (Nat.le_of_eq HN3.out) K16.size) ?_; intro v20 w20 hown20 hg20 hat20; have K20 := RK.out _ _ _ _ _ K16 hown16 hg20; obtain ⟨A20, c20, rfl, hc20, hm20, hrw20, -, -⟩ := hown20.form; have hS20 := SK.out _ K20)
     refine hK.out _ _ ?_ (fun hHeld => ?_)
     ·assumption
     clear hK K
     try simp only [Act.put, List.setIfInBounds_toArray]
     refine oS 21 fun K hK => ?_
     go_simp
     (have hbk := BK.out w20 A20 c20 b (by rw [qc8, qcY]; exact hrw20) (by rw [List.length_append, ← HMM.out]; exact hc20) hm20; rw [HLEN.out, HRU.out, HSS.out] at hbk; (with_reducible refine hbk.mono ?_); rintro en w21 ⟨bb, rfl, h60, hk21⟩; have K21 := K20.trans' hk21; have hS21 := SK.out _ K21)
     refine hK.out _ _ ?_ (fun hHeld => ?_)
     ·assumption
     clear hK K
     try simp only [Act.put, tdy]
     refine eS 22 fun K hK => ?_
     go_simp
     refine hK.out _ _ ?_
     clear hK K
     try simp only [Act.put, tdy]
     refine dS ?_ _
     go_wp2_with fail
     go_meet
     exact ⟨bb, rfl, fun h => ⟨h60 h, by omega, by omega, by omega⟩, K21⟩
   ·skip
    go_simp
    (have K19 : Kept w3 (w3.alloc (.cells #[.int .i64 1, .int .i64 0, .int .i64 0, .int .i64 b, .bool false, .string ⟨#[]⟩, .int .i64 0, .bool false, .string ⟨#[]⟩, .int .i64 0, .string ⟨#[]⟩] 37)).drew := ((Below.refl _ w3).alloc (Nat.le_refl _) _).drew; have hS19 := SK.out _ K19)
    refine hK.out _ _ ?_ (fun hHeld => ?_)
    ·assumption
    clear hK K
    try simp only [Act.put, tdy]
    refine oS 14 fun K hK => ?_
    go_simp
    (have K14 : Kept w3 ((w3.alloc (.cells #[.int .i64 1, .int .i64 0, .int .i64 0, .int .i64 b, .bool false, .string ⟨#[]⟩, .int .i64 0, .bool false, .string ⟨#[]⟩, .int .i64 0, .string ⟨#[]⟩] 37)).alloc (.cells #[] 37)).drew := (((Below.refl _ w3).alloc (Nat.le_refl _) _).alloc (by simp) _).drew; have O14 := (Own.new (w3.alloc (.cells #[.int .i64 1, .int .i64 0, .int .i64 0, .int .i64 b, .bool false, .string ⟨#[]⟩, .int .i64 0, .bool false, .string ⟨#[]⟩, .int .i64 0, .string ⟨#[]⟩] 37)) #[] 37 (0, 0) 0 11 [] n3 (w3.heap.size + 1) (by simp) (Nat.le_trans (Nat.le_of_eq HN3.out) (Nat.le_succ _)) (by unfold maxLen; omega) rfl rfl (by simp)).drew; have R14 : Row ((w3.alloc (.cells #[.int .i64 1, .int .i64 0, .int .i64 0, .int .i64 b, .bool false, .string ⟨#[]⟩, .int .i64 0, .bool false, .string ⟨#[]⟩, .int .i64 0, .string ⟨#[]⟩] 37)).alloc (.cells #[] 37)).drew (some ⟨w3.heap.size, 0, none⟩) (stV (qdI b)) := ((Row.qbA w3 _ 37 _ _ w3.heap.size rfl rfl).alloc (.cells #[] 37)).drew; have hS14 := SK.out _ K14)
    refine hK.out _ _ ?_ (fun hHeld => ?_)
    ·assumption
    clear hK K
    try simp only [Act.put, tdy]
    refine oS 16 fun K hK => ?_
    (refine qbF _ (by rfl) _ _ 32 rfl n3 37 j0 (.agg ZL5.toArray) 11 112 underlying32 hj1 hj2 hj3 hj5 rfl (by decide) (.slice (some ⟨(w3.heap.size + 1), 0, none⟩) 0 0) 0 [] rfl O14 A2 M c2 (qcm L) rfl (by rw [qbY, HMM.out]) (HRW.out.kept K14) (qbJ L) (by unfold maxLen; omega) (by omega) (Nat.le_trans (Nat.le_of_eq HN3.out) K14.size) ?_; intro v16 w16 hown16 hg16 hat16; simp only [Nat.zero_add, List.nil_append] at hown16; have K16 := RK.out _ _ _ _ _ K14 O14 hg16; obtain ⟨A16, c16, rfl, hc16, hm16, hrw16, -, -⟩ := hown16.form; have hS16 := SK.out _ K16; have R16 := R14.grown hg16 (fun x off e => by cases e; simp [Value.ownBlock]))
    refine hK.out _ _ ?_ (fun hHeld => ?_)
    ·assumption
    clear hK K
    try simp only [Act.put, List.setIfInBounds_toArray]
    refine oS 20 fun K hK => ?_
    (refine qbF _ (by rfl) _ _ 32 rfl n3 37 j0 (.agg ZL5.toArray) 11 112 underlying32 hj1 hj2 hj3 hj5 rfl (by decide) (.slice A16 M c16) M (qcm L) rfl hown16 (some ⟨w3.heap.size, 0, none⟩) 1 1 (stV (qdI b)) rfl rfl R16 (by rw [← qcY]; exact qbJ _) (by unfold maxLen; omega) (by omega) (Nat.le_trans (Nat.le_of_eq HN3.out) K16.size) ?_; intro v20 w20 hown20 hg20 hat20; have K20 := RK.out _ _ _ _ _ K16 hown16 hg20; obtain ⟨A20, c20, rfl, hc20, hm20, hrw20, -, -⟩ := hown20.form; have hS20 := SK.out _ K20)
    refine hK.out _ _ ?_ (fun hHeld => ?_)
    ·assumption
    clear hK K
    try simp only [Act.put, List.setIfInBounds_toArray]
    refine oS 21 fun K hK => ?_
    go_simp
    (have hbk := BK.out w20 A20 c20 b (by rw [qc8, qcY]; exact hrw20) (by rw [List.length_append, ← HMM.out]; exact hc20) hm20; rw [HLEN.out, HRU.out, HSS.out] at hbk; (with_reducible refine hbk.mono ?_); rintro en w21 ⟨bb, rfl, h60, hk21⟩; have K21 := K20.trans' hk21; have hS21 := SK.out _ K21)
    refine hK.out _ _ ?_ (fun hHeld => ?_)
    ·assumption
    clear hK K
    try simp only [Act.put, tdy]
    refine eS 22 fun K hK => ?_
    go_simp
    refine hK.out _ _ ?_
    clear hK K
    try simp only [Act.put, tdy]
    refine dS ?_ _
    go_wp2_with fail
    go_meet
    exact ⟨bb, rfl, fun h => ⟨h60 h, by omega, by omega, by omega⟩, K21⟩
 case rest =>
  obtain ⟨wa, hwa⟩ : ∃ X, X = wc := ⟨_, rfl⟩
  subst hwa
  obtain ⟨bb, rfl, hbb, hk4⟩ := hcut
  have K4 := qh (K3.out.trans' hk4)
  have J4 := qh (J3.out.trans' hk4)
  have HR4 := qh (HRW.out.kept hk4)
  clear hk4 HO HRW BK K2 K3 J3
  cases bb with
  | true =>
   go_wp2_with fail
   exact bodyPost_ret (v := .bool true) (by simp [results, results3, go_sem]) rfl ⟨rfl, K4.out⟩
  | false =>
   obtain ⟨h60, ha0, hab, hb40⟩ := hbb rfl
   have H60 := qh h60
   obtain ⟨an, rfl⟩ : ∃ an : Nat, a = (an : Int) := ⟨a.toNat, by omega⟩
   obtain ⟨bn, rfl⟩ : ∃ bn : Nat, b = (bn : Int) := ⟨b.toNat, by omega⟩
   have HAB := qh (And.intro (show an ≤ bn by omega) (show bn ≤ 40 by omega))
   clear hbb h60 ha0 hab hb40
   go_upto_region 6 with fail
   refine wp_region_list ?_
   refine wpList_plain rfl fun K hK => qai (vs := (LC3 a0 a1 a2 a3 a4 a5 a6)) (b := bk) (n := 7) _ rfl rfl (B0.out.kept J4.out) rfl underlying26 rfl (by kernel_rfl) (hK _ _ ?_)
   clear hK K
   refine wpList_plain rfl fun K hK => qai (vs := [.int .i64 uk, .bool u0, .string u1, .int .i64 u2, .bool u3, .string u4, .int .i64 u5, .bool u6, .string u7, .int .i64 u8, .float .f64 ux, .float .f64 uy]) (b := bk + 1) (n := 12) _ rfl rfl (B1.out.kept J4.out) rfl underlying31 rfl (by kernel_rfl) (hK _ _ ?_)
   clear hK K
   refine wpList_plain rfl fun K hK => ?_
   go_step
   refine hK _ _ ?_
   clear hK K
   refine wpList_plain rfl fun K hK => ?_
   go_step
   have hnw := NW.out wa K4.out
   rw [HRU.out, HSS.out] at hnw
   refine hnw.mono ?_
   rintro en w5 ⟨hk5, hn⟩
   have K5 := qh (K4.out.trans' hk5)
   have J5 := qh (J4.out.trans' hk5)
   have HR5 := qh (HR4.out.kept hk5)
   clear NW hnw
   rw [← HSS.out] at hn
   by_cases hcond : sqB SS = true ∧ (qaj SS).2 = 0
   ·rw [if_pos hcond] at hn
    obtain ⟨p, v, rfl, hM⟩ := hn
    refine hK _ _ ?_
    clear hK K
    refine wpList_plain rfl fun K hK => ?_
    go_step
    refine hK _ _ ?_
    clear hK K
    refine wpList_plain rfl fun K hK => ?_
    go_step
    refine hK _ _ ?_
    clear hK K
    refine wpList_plain rfl fun K hK => ?_
    go_step
    refine hK _ _ ?_
    clear hK K
    refine wpList_plain rfl fun K hK => ?_
    go_step
    refine hK _ _ ?_
    clear hK K
    refine wpList_plain rfl fun K hK => ?_
    go_step
    refine hK _ _ ?_
    clear hK K
    have HTR : Hid (TrO wa.heap.size w5 U p v (qdB U SS)) := qh ⟨qec hcond.1, qdN U SS, _, Nat.le_refl _, hM⟩
    have HGN := qh (show 1 < wa.heap.size by have := HGL.out; have := K4.out.size; omega)
    have HNW := qh (show wa.heap.size ≤ w5.heap.size from hk5.size)
    have HK5 := qh hk5
    have HS0 := qh (show (qdB U SS).n ≤ 1 from Nat.le_refl _)
    generalize qdB U SS = S0 at *
    clear hcond hM hk5 HR5 J5 K5
    have hM60 : (M : Int) ≤ 60 := by have := H60.out; omega
    go_wp2_with fail
    go_loopg [17] M (fun gh v17 wr => ∃ (j : Nat) (vm : Value) (Sm : StD), j + gh = M ∧ v17 = .int .i64 (j : Int) ∧ TrO wa.heap.size wr U p vm Sm ∧ Sm.n ≤ 1 + 3 * j ∧ Kept wa wr)
    case atStart => exact ⟨0, v, S0, by omega, rfl, HTR.out, HS0.out, HK5.out⟩
    case round =>
     clear HTR HS0 HK5 HNW
     obtain ⟨j, vm, Sm, hjg, rfl, htr, hsn, hkr⟩ := hrel
     have HTR := qh htr
     have HSN := qh hsn
     have HKR := qh hkr
     clear htr hsn hkr
     cases gk with
     | succ gj =>
      obtain ⟨x, hx⟩ : ∃ x, L[j]? = some x := ⟨_, List.getElem?_eq_getElem (by have := HMM.out; omega)⟩
      have hjN : (j : Int) < (M : Int) := by omega
      have hj0 : (0 : Int) ≤ (j : Int) := by omega
      have ewj : IntKind.i64.wrap ((j : Int) + 1) = ((j + 1 : Nat) : Int) := by have := H60.out; rw [IntWalk.i64_in _ (by omega)]; omega
      have hxo := HOK.out x (List.mem_of_getElem? hx)
      obtain ⟨g, off, rfl, hcs⟩ : ∃ g off, A2 = some ⟨g, off, none⟩ ∧ ∀ i y, (((stV x).drop 4).take 6)[i]? = some y → wr.cell? ⟨g, off + j * 11 + 4 + i, none⟩ = some y := by
       rcases (HR4.out.kept HKR.out) with h | ⟨g, off, e, hx2⟩
       ·have := qbY L; rw [h] at this; have h2 := (List.getElem?_eq_some_iff.1 hx).1; simp at this; omega
       ·refine ⟨g, off, e, fun i y hy => ?_⟩
        rw [List.getElem?_take] at hy
        split at hy
        ·rw [List.getElem?_drop] at hy
         rw [show off + j * 11 + 4 + i = off + (j * 11 + (4 + i)) by omega]
         exact hx2 _ _ ((qfv L j x (4 + i) hx (by omega)).trans hy)
        ·cases hy
      have HCS := qh hcs
      have hop := qi3 x.g HTR.out (HT.out.kept (K4.out.trans' HKR.out)) HU.out hxo.re hxo.im
      have HOP := qh hop
      clear hx hcs hxo hop
      go_upto_region 12 with fail
      refine wp_region_list ?_
      refine wpList_plain rfl fun K hK => ?_
      go_step
      refine hK _ _ ?_
      clear hK K
      refine wpList_plain rfl fun K hK => ?_
      go_step
      refine hK _ _ ?_
      clear hK K
      refine wpList_plain rfl fun K hK => ?_
      go_step
      refine hK _ _ ?_
      clear hK K
      refine wpList_plain rfl fun K hK => ?_
      go_step
      refine hK _ _ ?_
      clear hK K
      refine wpList_plain rfl fun K hK => ?_
      go_step
      refine hK _ _ ?_
      clear hK K
      refine wpList_plain rfl fun K hK => qav (vs := (LC1 x.g.re.neg x.g.re.n x.g.re.e x.g.im.neg x.g.im.n x.g.im.e)) (g := g) (off := off + j * 11 + 4) (n := 6) _ rfl rfl HCS.out rfl underlying28 rfl (by kernel_rfl) (hK _ _ ?_)
      clear hK K HCS
      refine wpList_plain rfl fun K hK => ?_
      go_step
      refine HOP.out.mono ?_
      clear HOP
      rintro en w7 ⟨px, pe, rfl, hp⟩
      refine hK _ _ ?_
      clear hK K
      obtain ⟨v7, ho7, hf7, -⟩ := hp
      have HO7 := qh ho7
      have HN7 := qh (qoc (qaD U) Sm x.g)
      have HK7 := qh (HKR.out.far hf7 (fun k hk => HTR.out.ge k hk))
      clear ho7 hf7 HTR HKR
      go_wp2_with fail
      go_roundg gj
      case measure => omega
      case rel => exact ⟨j + 1, v7, _, by omega, by go_num, HO7.out, by have := HN7.out; have := HSN.out; omega, HK7.out⟩
     | zero =>
      obtain rfl : j = M := by omega
      go_upto_region 13 with fail
      have hfd := qoC G HTR.out (HT.out.kept (K4.out.trans' HKR.out)) HGR.out.1 HGR.out.2
      refine wp_region_list ?_
      refine wpList_plain rfl fun K hK => ?_
      go_step
      refine hK _ _ ?_
      clear hK K
      refine wpList_plain rfl fun K hK => qai (vs := (LC1 G.re.neg G.re.n G.re.e G.im.neg G.im.n G.im.e)) (b := bk + 1 + 1) (n := 6) _ rfl rfl (B2.out.kept (J4.out.trans' HKR.out)) rfl underlying28 rfl (by kernel_rfl) (hK _ _ ?_)
      clear hK K
      refine wpList_plain rfl fun K hK => ?_
      go_step
      refine hfd.mono ?_
      clear hfd
      rintro en w8 ⟨⟨x, tx, rfl, hx⟩, hk8⟩
      have HXx := qh hx
      refine hK _ _ ?_
      clear hK K hx
      refine wpList_plain rfl fun K hK => ?_
      go_step
      refine hK _ _ ?_
      clear hK K
      refine wpList_plain rfl fun K hK => ?_
      go_step
      refine hK _ _ ?_
      clear hK K
      refine wpList_plain rfl fun K hK => ?_
      go_step
      refine hK _ _ ?_
      clear hK K
      refine wpList_plain rfl fun K hK => ?_
      go_step
      refine hK _ _ ?_
      clear hK K
      refine wpList_plain rfl fun K hK => ?_
      go_step
      refine hK _ _ ?_
      clear hK K
      have KN := qh (Kept.new hk8 (.cells ZL4.toArray 26))
      have BN := qh (Bx.new w8 ZL4 26 w8.heap.size rfl)
      obtain ⟨y, hy⟩ : ∃ y, y = w8.heap.size := ⟨_, rfl⟩
      have HYy := qh (show wr.heap.size ≤ y by have := hk8.size; omega)
      rw [← hy] at BN ⊢
      clear hy hk8
      generalize World.alloc w8 _ = w9 at *
      refine wpList_plain rfl fun K hK => qaa (vs := (LC3 x.left.neg x.left.n x.left.e x.low.neg x.low.n x.low.e x.e)) (b := y) (n := 7) _ _ rfl rfl rfl BN.out rfl rfl (by kernel_rfl) rfl (hK _ _ ?_)
      clear hK K
      have BBy := qh (BN.out.row (LC3 x.left.neg x.left.n x.left.e x.low.neg x.low.n x.low.e x.e))
      have KKy := qh (Kept.row KN.out HYy.out (LC3 x.left.neg x.left.n x.left.e x.low.neg x.low.n x.low.e x.e))
      clear KN BN HYy
      generalize World.setRow w9 _ _ = w10 at *
      refine wpList_plain rfl fun K hK => ?_
      go_step
      refine hK _ _ ?_
      clear hK K
      refine wpList_plain rfl fun K hK => ?_
      go_step
      refine hK _ _ ?_
      clear hK K
      have HTA := qh (HTR.out.kept KKy.out)
      have HKA := qh (HKR.out.trans' KKy.out)
      clear HTR HKR KKy
      go_upto_region 14 with fail
      have hfd := qoC H HTA.out (HT.out.kept (K4.out.trans' HKA.out)) HHR.out.1 HHR.out.2
      refine wp_region_list ?_
      refine wpList_plain rfl fun K hK => ?_
      go_step
      refine hK _ _ ?_
      clear hK K
      refine wpList_plain rfl fun K hK => qai (vs := (LC1 H.re.neg H.re.n H.re.e H.im.neg H.im.n H.im.e)) (b := bk + 1 + 1 + 1) (n := 6) _ rfl rfl (B3.out.kept (J4.out.trans' HKA.out)) rfl underlying28 rfl (by kernel_rfl) (hK _ _ ?_)
      clear hK K
      refine wpList_plain rfl fun K hK => ?_
      go_step
      refine hfd.mono ?_
      clear hfd
      rintro en w11 ⟨⟨z, tz, rfl, hz⟩, hk8⟩
      have HXz := qh hz
      refine hK _ _ ?_
      clear hK K hz
      refine wpList_plain rfl fun K hK => ?_
      go_step
      refine hK _ _ ?_
      clear hK K
      refine wpList_plain rfl fun K hK => ?_
      go_step
      refine hK _ _ ?_
      clear hK K
      refine wpList_plain rfl fun K hK => ?_
      go_step
      refine hK _ _ ?_
      clear hK K
      refine wpList_plain rfl fun K hK => ?_
      go_step
      refine hK _ _ ?_
      clear hK K
      refine wpList_plain rfl fun K hK => ?_
      go_step
      refine hK _ _ ?_
      clear hK K
      have KN := qh (Kept.new hk8 (.cells ZL4.toArray 26))
      have BN := qh (Bx.new w11 ZL4 26 w11.heap.size rfl)
      obtain ⟨yz, hy⟩ : ∃ y, y = w11.heap.size := ⟨_, rfl⟩
      have HYyz := qh (show w10.heap.size ≤ yz by have := hk8.size; omega)
      rw [← hy] at BN ⊢
      clear hy hk8
      generalize World.alloc w11 _ = w12 at *
      refine wpList_plain rfl fun K hK => qaa (vs := (LC3 z.left.neg z.left.n z.left.e z.low.neg z.low.n z.low.e z.e)) (b := yz) (n := 7) _ _ rfl rfl rfl BN.out rfl rfl (by kernel_rfl) rfl (hK _ _ ?_)
      clear hK K
      have BByz := qh (BN.out.row (LC3 z.left.neg z.left.n z.left.e z.low.neg z.low.n z.low.e z.e))
      have KKyz := qh (Kept.row KN.out HYyz.out (LC3 z.left.neg z.left.n z.left.e z.low.neg z.low.n z.low.e z.e))
      clear KN BN HYyz
      generalize World.setRow w12 _ _ = w13 at *
      refine wpList_plain rfl fun K hK => ?_
      go_step
      refine hK _ _ ?_
      clear hK K
      refine wpList_plain rfl fun K hK => ?_
      go_step
      refine hK _ _ ?_
      clear hK K
      have HTB := qh (HTA.out.kept KKyz.out)
      have HKB := qh (HKA.out.trans' KKyz.out)
      have BBx := qh (BBy.out.kept KKyz.out)
      clear HTA HKA KKyz BBy
      obtain ⟨e1, he1⟩ : ∃ e, e = (findD Sm.L G).2 := ⟨_, rfl⟩
      obtain ⟨e2, he2⟩ : ∃ e, e = (findD Sm.L H).2 := ⟨_, rfl⟩
      have HE1 := qh he1
      have HE2 := qh he2
      rw [← he1] at HXx ⊢
      rw [← he2] at HXz ⊢
      clear he1 he2
      go_upto_region 15 with fail
      go_cut [106] from 96 to 106 (fun v106 wy => ∃ bb : Bool, v106 = .bool bb ∧ (bb = true → e1 = 0 ∧ e2 = 0 ∧ x ≠ z) ∧ w13 = wy)
      case first =>
       by_cases h1 : e1 = 0
       ·by_cases h2 : e2 = 0
        ·subst h1 h2
         obtain ⟨c0, c1, c2, c3, c4, c5, c6⟩ := BBx.out.c7
         obtain ⟨d0, d1, d2, d3, d4, d5, d6⟩ := BByz.out.c7
         by_cases hxz : x = z
         ·subst hxz
          go_wp2_with fail
          go_meet
          exact ⟨false, rfl, fun h => (by cases h), rfl⟩
         ·have hif := qoZ x z hxz
          have HNE := qh hxz
          clear hxz
          go_wp2_with fail
          go_meet
          exact ⟨true, rfl, fun _ => ⟨by simp, by simp, HNE.out⟩, rfl⟩
        ·have h2b : (e2 == 0) = false := by simpa using h2
         have h1b : (e1 == 0) = true := by simpa using h1
         have h2c := qh h2
         clear h1 h2
         go_wp2_with fail
         go_meet
         exact ⟨false, rfl, fun h => (by cases h), rfl⟩
       ·have h1b : (e1 == 0) = false := by simpa using h1
        have h1c := qh h1
        clear h1
        go_wp2_with fail
        go_meet
        exact ⟨false, rfl, fun h => (by cases h), rfl⟩
      case rest =>
       obtain ⟨bb, rfl, hbb, hw⟩ := hcut
       subst hw
       have HBB := qh hbb
       clear hbb
       go_upto_if 106 with fail
       go_cut [23, 24] from 107 to 139 (fun v23 v24 wy => TrO wa.heap.size wy U p vm Sm ∧ Kept wa wy)
       case first =>
        cases bb with
        | false =>
         go_wp2_with fail
         go_meet
         exact ⟨HTB.out, HKB.out⟩
        | true =>
         have HC1 := qh (qkX HTB.out)
         go_upto_region 17 with first | (go_at_call 12; (with_reducible refine HC1.out.mono ?_); rintro e w14 ⟨p1, v1, rfl, hM1, hk14⟩; have HM1 := qh hM1; have HK14 := qh hk14; have HC2 := qh (qkX (HTB.out.kept hk14)); clear hM1 hk14) | (go_at_call 12; (with_reducible refine HC2.out.mono ?_); rintro e w15 ⟨p2, v2, rfl, hM2, hk15⟩; have HM2 := qh hM2; have HK15 := qh hk15; clear hM2 hk15)
         have HW0 := qh (Two.new HTB.out HKB.out (Nat.le_refl _) HM1.out HTB.out.good HTB.out.whole HK14.out HM2.out HTB.out.good HTB.out.whole HK15.out HKB.out.size)
         have HGW := qh (And.intro HTB.out.good HTB.out.whole)
         clear HTB HKB HM1 HM2 HK14 HK15 HC1 HC2
         go_upto_region 19 with fail
         have hpt := qi3 G HW0.out.o (HT.out.kept (K4.out.trans' HW0.out.kept)) HU.out HGR.out.1 HGR.out.2
         refine wp_region_list ?_
         refine wpList_plain rfl fun K hK => ?_
         go_step
         refine hK _ _ ?_
         clear hK K
         refine wpList_plain rfl fun K hK => qai (vs := (LC1 G.re.neg G.re.n G.re.e G.im.neg G.im.n G.im.e)) (b := bk + 1 + 1) (n := 6) _ rfl rfl (B2.out.kept (J4.out.trans' HW0.out.kept)) rfl underlying28 rfl (by kernel_rfl) (hK _ _ ?_)
         clear hK K
         refine wpList_plain rfl fun K hK => ?_
         go_step
         refine hpt.mono ?_
         clear hpt
         rintro en w16 ⟨px, pe, rfl, hp⟩
         obtain ⟨vv1, htw⟩ := HW0.out.post hp
         have HW1 := qh htw
         clear hp htw HW0
         refine hK _ _ ?_
         clear hK K
         go_upto_region 20 with fail
         have hpt := qi3 H HW1.out.o (HT.out.kept (K4.out.trans' HW1.out.kept)) HU.out HHR.out.1 HHR.out.2
         refine wp_region_list ?_
         refine wpList_plain rfl fun K hK => ?_
         go_step
         refine hK _ _ ?_
         clear hK K
         refine wpList_plain rfl fun K hK => qai (vs := (LC1 H.re.neg H.re.n H.re.e H.im.neg H.im.n H.im.e)) (b := bk + 1 + 1 + 1) (n := 6) _ rfl rfl (B3.out.kept (J4.out.trans' HW1.out.kept)) rfl underlying28 rfl (by kernel_rfl) (hK _ _ ?_)
         clear hK K
         refine wpList_plain rfl fun K hK => ?_
         go_step
         refine hpt.mono ?_
         clear hpt
         rintro en w17 ⟨px, pe, rfl, hp⟩
         obtain ⟨vv2, htw⟩ := HW1.out.post hp
         have HW2 := qh htw
         clear hp htw HW1
         refine hK _ _ ?_
         clear hK K
         go_upto_region 21 with fail
         have hpt := qi3 H HW2.out.z (HT.out.kept (K4.out.trans' HW2.out.kept)) HU.out HHR.out.1 HHR.out.2
         refine wp_region_list ?_
         refine wpList_plain rfl fun K hK => ?_
         go_step
         refine hK _ _ ?_
         clear hK K
         refine wpList_plain rfl fun K hK => qai (vs := (LC1 H.re.neg H.re.n H.re.e H.im.neg H.im.n H.im.e)) (b := bk + 1 + 1 + 1) (n := 6) _ rfl rfl (B3.out.kept (J4.out.trans' HW2.out.kept)) rfl underlying28 rfl (by kernel_rfl) (hK _ _ ?_)
         clear hK K
         refine wpList_plain rfl fun K hK => ?_
         go_step
         refine hpt.mono ?_
         clear hpt
         rintro en w18 ⟨px, pe, rfl, hp⟩
         obtain ⟨vv3, htw⟩ := HW2.out.qnO hp
         have HW3 := qh htw
         clear hp htw HW2
         refine hK _ _ ?_
         clear hK K
         go_upto_region 22 with fail
         have hpt := qi3 G HW3.out.z (HT.out.kept (K4.out.trans' HW3.out.kept)) HU.out HGR.out.1 HGR.out.2
         refine wp_region_list ?_
         refine wpList_plain rfl fun K hK => ?_
         go_step
         refine hK _ _ ?_
         clear hK K
         refine wpList_plain rfl fun K hK => qai (vs := (LC1 G.re.neg G.re.n G.re.e G.im.neg G.im.n G.im.e)) (b := bk + 1 + 1) (n := 6) _ rfl rfl (B2.out.kept (J4.out.trans' HW3.out.kept)) rfl underlying28 rfl (by kernel_rfl) (hK _ _ ?_)
         clear hK K
         refine wpList_plain rfl fun K hK => ?_
         go_step
         refine hpt.mono ?_
         clear hpt
         rintro en w19 ⟨px, pe, rfl, hp⟩
         obtain ⟨vv4, htw⟩ := HW3.out.qnO hp
         have HW4 := qh htw
         clear hp htw HW3
         refine hK _ _ ?_
         clear hK K
         go_upto_region 23 with fail
         have hbb := HBB.out (by trivial)
         have hbe := qjj (qaD U) HGW.out.2 (HE1.out.symm.trans hbb.1) (HE2.out.symm.trans hbb.2.1) (HXx.out hbb.1) (HXz.out hbb.2.1) hbb.2.2 (by have := HSN.out; have := H60.out; omega)
         have BY1 := qh (fun W (hk : Kept w19 W) => qik (HW4.out.o.kept hk))
         have BY2 := qh (fun W (hk : Kept w19 W) => qik (HW4.out.z.kept hk))
         have hXn := qjJ HW4.out.o.whole HW4.out.o.good
         rw [← hbe] at BY2
         have KQ : Hid (Kept w19 w19) := qh (Below.refl _ w19)
         have HT4 := qh HW4.out.t
         have HK4 := qh HW4.out.kept
         obtain ⟨X, hX⟩ : ∃ X : ByteArray, X = ⟨(bytesD (qaV (qaD U) (qaV (qaD U) Sm G) H)).toArray⟩ := ⟨_, rfl⟩
         rw [← hX] at BY1 BY2 hXn
         clear hbb hbe hX HW4 HBB HGW
         go_wp2_with first | (go_at_call 13; (with_reducible refine (BY1.out _ KQ.out).mono ?_); rintro e wq ⟨rfl, hkq⟩; replace KQ := qh (KQ.out.trans' hkq); clear hkq) | (go_at_call 13; (with_reducible refine (BY2.out _ KQ.out).mono ?_); rintro e wq ⟨rfl, hkq⟩; replace KQ := qh (KQ.out.trans' hkq); clear hkq)
         go_meet
         exact ⟨HT4.out.kept KQ.out, HK4.out.trans' KQ.out⟩
       case rest =>
       obtain ⟨htr, hkr⟩ := hcut
       obtain ⟨wb, hwb⟩ : ∃ X, X = wc := ⟨_, rfl⟩
       subst hwb
       have HTC := qh htr
       have HKC := qh hkr
       clear htr hkr HTB HKB HBB HE1 HE2 HXx HXz BBx BByz
       have HC1 := qh (qkX HTC.out)
       go_upto_region 28 with first | (go_at_call 12; (with_reducible refine HC1.out.mono ?_); rintro e w14 ⟨p1, v1, rfl, hM1, hk14⟩; have HM1 := qh hM1; have HK14 := qh hk14; have HC2 := qh (qkX (HTC.out.kept hk14)); clear hM1 hk14) | (go_at_call 12; (with_reducible refine HC2.out.mono ?_); rintro e w15 ⟨p2, v2, rfl, hM2, hk15⟩; have HM2 := qh hM2; have HK15 := qh hk15; clear hM2 hk15)
       have HW0 := qh (Two.new HTC.out HKC.out (Nat.le_refl _) HM1.out HTC.out.good HTC.out.whole HK14.out HM2.out HTC.out.good HTC.out.whole HK15.out HKC.out.size)
       obtain ⟨hd1, hd2⟩ := qmn (t := qaD U) HAB.out.1 HTC.out.whole
       have hbd := qfU (t := qaD U) (depth := bn) 21846 (S := Sm)
       have hbl := (qeW (u := U) (depth := bn) 21846 HTC.out.good).len
       have hl1 : (qbV (qaD U) bn Sm).2 ≤ 87381 := by unfold qbV; omega
       have HD1 := qh (qns (D := an) HW0.out.o (HT.out.kept (K4.out.trans' HW0.out.kept)) HU.out HGN.out (Nat.le_trans HAB.out.1 HAB.out.2))
       clear hbd hbl HTC HKC HM1 HM2 HK14 HK15 HC1 HC2
       have h40 := qh HAB.out.2
       generalize hS1 : (qbV (qaD U) an Sm).1 = S1 at *
       generalize hm1 : (qbV (qaD U) an Sm).2 = m1 at *
       clear hS1 hm1
       go_upto_region 29 with (go_at_call 14; (with_reducible refine HD1.out.mono ?_); rintro e w30 ⟨rfl, hp⟩; obtain ⟨v30, htw⟩ := HW0.out.post hp; have HW1 := qh htw; clear hp htw)
       have HD2 := qh (qns (D := bn) HW1.out.o (HT.out.kept (K4.out.trans' HW1.out.kept)) HU.out HGN.out h40.out)
       clear HD1 HW0
       generalize hS2 : (qbV (qaD U) bn S1).1 = S2 at *
       generalize hm2 : (qbV (qaD U) bn S1).2 = m2 at *
       clear hS2 hm2
       go_upto_region 30 with (go_at_call 14; (with_reducible refine HD2.out.mono ?_); rintro e w31 ⟨rfl, hp⟩; obtain ⟨v31, htw⟩ := HW1.out.post hp; have HW2 := qh htw; clear hp htw)
       have HD3 := qh (qns (D := bn) HW2.out.z (HT.out.kept (K4.out.trans' HW2.out.kept)) HU.out HGN.out h40.out)
       clear HD2 HW1
       generalize hS3 : (qbV (qaD U) bn Sm).1 = S3 at *
       generalize hm3 : (qbV (qaD U) bn Sm).2 = m3 at *
       clear hS3 hm3
       go_upto_region 31 with (go_at_call 14; (with_reducible refine HD3.out.mono ?_); rintro e w32 ⟨rfl, hp⟩; obtain ⟨v32, htw⟩ := HW2.out.qnO hp; have HW3 := qh htw; clear hp htw)
       clear HD3 HW2
       subst hd1
       have BY1 := qh (fun W (hk : Kept w32 W) => qik (HW3.out.o.kept hk))
       have BY2 := qh (fun W (hk : Kept w32 W) => qik (HW3.out.z.kept hk))
       have KQ : Hid (Kept w32 w32) := qh (Below.refl _ w32)
       have HK4 := qh (K4.out.trans' HW3.out.kept)
       generalize (⟨(bytesD _).toArray⟩ : ByteArray) = X at BY1 BY2
       have ew : IntKind.i64.wrap ((m1 : Int) + (m2 : Int)) = (m3 : Int) := by rw [IntWalk.i64_in _ (by omega)]; omega
       clear hd2 hl1 HW3
       go_wp2_with first | (go_at_call 13; (with_reducible refine (BY1.out _ KQ.out).mono ?_); rintro e wq ⟨rfl, hkq⟩; replace KQ := qh (KQ.out.trans' hkq); clear hkq) | (go_at_call 13; (with_reducible refine (BY2.out _ KQ.out).mono ?_); rintro e wq ⟨rfl, hkq⟩; replace KQ := qh (KQ.out.trans' hkq); clear hkq)
       exact bodyPost_ret (v := .bool true) (by simp [results, results3, go_sem]) rfl ⟨rfl, HK4.out.trans' KQ.out⟩
   ·rw [if_neg hcond] at hn
    obtain ⟨e, he, rfl, -⟩ := hn
    refine hK _ _ ?_
    clear hK K
    refine wpList_plain rfl fun K hK => ?_
    go_step
    refine hK _ _ ?_
    clear hK K
    refine wpList_plain rfl fun K hK => ?_
    go_step
    refine hK _ _ ?_
    clear hK K
    refine wpList_plain rfl fun K hK => ?_
    go_step
    refine hK _ _ ?_
    clear hK K
    refine wpList_plain rfl fun K hK => ?_
    go_step
    refine hK _ _ ?_
    clear hK K
    refine wpList_plain rfl fun K hK => ?_
    go_step
    refine hK _ _ ?_
    clear hK K
    have hne : (e != 0) = true := by simpa using he
    clear he hcond
    go_wp2_with fail
    exact bodyPost_ret (v := .bool true) (by simp [results, results3, go_sem]) rfl ⟨rfl, K5.out⟩
end
section
set_option maxRecDepth 100000
open Go.ChangeShapes Go.WideShapes Go.ChangeAt Go.WideMaps Go.WideElems Go.RowKit Go.Deep
section
variable {H : Type} {enc : TypeId × Value → H} {w : World} {base : Nat} {spare : Nat → Bool} {held : Bool}
theorem qfE {P : Program} {fuel : Nat} {t : TypeId} {cs : List Value} {x : DataW H × List MemPlace} (ht : P.underlying t = some (.float .f64)) (h : DataW.trod enc P w base spare held fuel t cs = some x) : ∃ b : Nat, cs = [.float .f64 b] ∧ b < 18446744073709551616 := by
 cases fuel with
 | zero => simp [DataW.trod] at h
 | succ n =>
  unfold DataW.trod at h
  rw [ht] at h
  split at h <;> first | (simp_all; done) | skip
  rename_i k k' b he
  injection he with he
  injection he with he
  subst he
  split at h
  ·rename_i hc
   obtain ⟨rfl, hw⟩ := hc
   exact ⟨_, rfl, of_decide_eq_true hw⟩
  ·cases h
def DyD.qcL (d : DyD) : List Value := (LC0 d.neg d.n d.e)
theorem qdv {fuel : Nat} {cs : List Value} {x : DataW H × List MemPlace} (h : DataW.trod enc prog w base spare held fuel 24 cs = some x) : ∃ d : DyD, d.ok ∧ cs = d.qcL := by
 have hI : prog.cellsOf 3 = 1 := by kernel_rfl
 have hS : prog.cellsOf 22 = 1 := by kernel_rfl
 have hB : prog.cellsOf 4 = 1 := by kernel_rfl
 have hC : prog.cellsOf 24 = 3 := by kernel_rfl
 obtain ⟨xs, k, -, -, hl, hlen, hg⟩ := DataW.trod_struct underlying24 h
 rw [hC] at hl
 match cs, hl with
 | [c0, c1, c2], _ =>
  obtain ⟨x0, q0⟩ : ∃ x0, xs[0]? = some x0 := ⟨_, List.getElem?_eq_getElem (by rw [hlen]; decide)⟩
  obtain ⟨x1, q1⟩ : ∃ x0, xs[1]? = some x0 := ⟨_, List.getElem?_eq_getElem (by rw [hlen]; decide)⟩
  obtain ⟨x2, q2⟩ : ∃ x0, xs[2]? = some x0 := ⟨_, List.getElem?_eq_getElem (by rw [hlen]; decide)⟩
  have g0 := (hg 0 _ rfl).trans q0
  have g1 := (hg 1 _ rfl).trans q1
  have g2 := (hg 2 _ rfl).trans q2
  simp only [List.getElem_toArray, List.getElem_cons_zero, List.getElem_cons_succ, hI, hS, hB, List.drop_zero, List.take_succ_cons, List.take_zero, List.drop_succ_cons] at g0 g1 g2
  obtain ⟨a0, e0, -⟩ := DataW.trod_bool underlying4 g0
  obtain ⟨a1, e1, -, w1⟩ := DataW.trod_string underlying22 g1
  obtain ⟨a2, e2, -, w2⟩ := DataW.trod_int underlying3 g2
  injection e0 with e0; injection e1 with e1; injection e2 with e2
  subst e0 e1 e2
  exact ⟨⟨a0, a1, a2⟩, ⟨w1, (bounds_i64 w2).1, (bounds_i64 w2).2⟩, rfl⟩
def GsD.qcL (g : GsD) : List Value := (LC1 g.re.neg g.re.n g.re.e g.im.neg g.im.n g.im.e)
theorem qdP {fuel : Nat} {cs : List Value} {x : DataW H × List MemPlace} (h : DataW.trod enc prog w base spare held fuel 28 cs = some x) : ∃ g : GsD, (g.re.ok ∧ g.im.ok) ∧ cs = g.qcL := by
 have hD : prog.cellsOf 24 = 3 := by kernel_rfl
 have hC : prog.cellsOf 28 = 6 := by kernel_rfl
 obtain ⟨y0, y1, n, -, hl, h0, h1⟩ := trod_struct2 underlying28 h
 rw [hC] at hl
 simp only [hD] at h0 h1
 match cs, hl with
 | [c0, c1, c2, c3, c4, c5], _ =>
  simp only [List.drop_zero, List.take_succ_cons, List.take_zero, List.drop_succ_cons] at h0 h1
  obtain ⟨p, hp, ep⟩ := qdv h0
  obtain ⟨q, hq, eq⟩ := qdv h1
  simp only [DyD.qcL, List.cons.injEq, and_true] at ep eq
  obtain ⟨rfl, rfl, rfl⟩ := ep
  obtain ⟨rfl, rfl, rfl⟩ := eq
  exact ⟨⟨p, q⟩, ⟨hp, hq⟩, rfl⟩
def SqD.qcL (s : SqD) : List Value := (LC3 s.left.neg s.left.n s.left.e s.low.neg s.low.n s.low.e s.e)
theorem qia {fuel : Nat} {cs : List Value} {x : DataW H × List MemPlace} (h : DataW.trod enc prog w base spare held fuel 26 cs = some x) : ∃ s : SqD, s.ok ∧ cs = s.qcL := by
 have hD : prog.cellsOf 24 = 3 := by kernel_rfl
 have hI : prog.cellsOf 3 = 1 := by kernel_rfl
 have hC : prog.cellsOf 26 = 7 := by kernel_rfl
 obtain ⟨xs, k, -, -, hl, hlen, hg⟩ := DataW.trod_struct underlying26 h
 rw [hC] at hl
 match cs, hl with
 | [c0, c1, c2, c3, c4, c5, c6], _ =>
  obtain ⟨x0, q0⟩ : ∃ x0, xs[0]? = some x0 := ⟨_, List.getElem?_eq_getElem (by rw [hlen]; decide)⟩
  obtain ⟨x1, q1⟩ : ∃ x0, xs[1]? = some x0 := ⟨_, List.getElem?_eq_getElem (by rw [hlen]; decide)⟩
  obtain ⟨x2, q2⟩ : ∃ x0, xs[2]? = some x0 := ⟨_, List.getElem?_eq_getElem (by rw [hlen]; decide)⟩
  have g0 := (hg 0 _ rfl).trans q0
  have g1 := (hg 1 _ rfl).trans q1
  have g2 := (hg 2 _ rfl).trans q2
  simp only [List.getElem_toArray, List.getElem_cons_zero, List.getElem_cons_succ, hI, hD, List.drop_zero, List.take_succ_cons, List.take_zero, List.drop_succ_cons] at g0 g1 g2
  obtain ⟨p, hp, ep⟩ := qdv g0
  obtain ⟨q, hq, eq⟩ := qdv g1
  obtain ⟨a2, e2, -, w2⟩ := DataW.trod_int underlying3 g2
  simp only [DyD.qcL, List.cons.injEq, and_true] at ep eq
  obtain ⟨rfl, rfl, rfl⟩ := ep
  obtain ⟨rfl, rfl, rfl⟩ := eq
  injection e2 with e2
  subst e2
  exact ⟨⟨p, q, a2⟩, ⟨hp, hq, (bounds_i64 w2).1, (bounds_i64 w2).2⟩, rfl⟩
theorem qjI {fuel : Nat} {cs : List Value} {x : DataW H × List MemPlace} (h : DataW.trod enc prog w base spare held fuel 31 cs = some x) : ∃ u : RuD, u.ok ∧ cs = ruL u := by
 have hD : prog.cellsOf 24 = 3 := by kernel_rfl
 have hI : prog.cellsOf 3 = 1 := by kernel_rfl
 have hG : prog.cellsOf 28 = 6 := by kernel_rfl
 have hF : prog.cellsOf 29 = 1 := by kernel_rfl
 have hC : prog.cellsOf 31 = 12 := by kernel_rfl
 obtain ⟨xs, k, -, -, hl, hlen, hg⟩ := DataW.trod_struct underlying31 h
 rw [hC] at hl
 match cs, hl with
 | [c0, c1, c2, c3, c4, c5, c6, c7, c8, c9, c10, c11], _ =>
  obtain ⟨x0, q0⟩ : ∃ x0, xs[0]? = some x0 := ⟨_, List.getElem?_eq_getElem (by rw [hlen]; decide)⟩
  obtain ⟨x1, q1⟩ : ∃ x0, xs[1]? = some x0 := ⟨_, List.getElem?_eq_getElem (by rw [hlen]; decide)⟩
  obtain ⟨x2, q2⟩ : ∃ x0, xs[2]? = some x0 := ⟨_, List.getElem?_eq_getElem (by rw [hlen]; decide)⟩
  obtain ⟨x3, q3⟩ : ∃ x0, xs[3]? = some x0 := ⟨_, List.getElem?_eq_getElem (by rw [hlen]; decide)⟩
  obtain ⟨x4, q4⟩ : ∃ x0, xs[4]? = some x0 := ⟨_, List.getElem?_eq_getElem (by rw [hlen]; decide)⟩
  have g0 := (hg 0 _ rfl).trans q0
  have g1 := (hg 1 _ rfl).trans q1
  have g2 := (hg 2 _ rfl).trans q2
  have g3 := (hg 3 _ rfl).trans q3
  have g4 := (hg 4 _ rfl).trans q4
  simp only [List.getElem_toArray, List.getElem_cons_zero, List.getElem_cons_succ, hI, hD, hG, hF, List.drop_zero, List.take_succ_cons, List.take_zero, List.drop_succ_cons] at g0 g1 g2 g3 g4
  obtain ⟨a0, e0, -, w0⟩ := DataW.trod_int underlying3 g0
  obtain ⟨p, hp, ep⟩ := qdP g1
  obtain ⟨q, hq, eq⟩ := qdv g2
  obtain ⟨a3, e3, w3⟩ := qfE underlying29 g3
  obtain ⟨a4, e4, w4⟩ := qfE underlying29 g4
  simp only [GsD.qcL, DyD.qcL, List.cons.injEq, and_true] at ep eq
  obtain ⟨rfl, rfl, rfl, rfl, rfl, rfl⟩ := ep
  obtain ⟨rfl, rfl, rfl⟩ := eq
  injection e0 with e0; injection e3 with e3; injection e4 with e4
  subst e0 e3 e4
  exact ⟨⟨a0, p, q, a3, a4⟩, ⟨(bounds_i64 w0).1, (bounds_i64 w0).2, hp.1, hp.2, hq, w3, w4⟩, rfl⟩
theorem qkH {fuel : Nat} {cs : List Value} {x : DataW H × List MemPlace} (h : DataW.trod enc prog w base spare held fuel 37 cs = some x) : ∃ s : qdn, (s.g.re.ok ∧ s.g.im.ok) ∧ cs = stV s := by
 have hI : prog.cellsOf 3 = 1 := by kernel_rfl
 have hG : prog.cellsOf 28 = 6 := by kernel_rfl
 have hS : prog.cellsOf 9 = 1 := by kernel_rfl
 have hC : prog.cellsOf 37 = 11 := by kernel_rfl
 obtain ⟨xs, k, -, -, hl, hlen, hg⟩ := DataW.trod_struct underlying37 h
 rw [hC] at hl
 match cs, hl with
 | [c0, c1, c2, c3, c4, c5, c6, c7, c8, c9, c10], _ =>
  obtain ⟨x0, q0⟩ : ∃ x0, xs[0]? = some x0 := ⟨_, List.getElem?_eq_getElem (by rw [hlen]; decide)⟩
  obtain ⟨x1, q1⟩ : ∃ x0, xs[1]? = some x0 := ⟨_, List.getElem?_eq_getElem (by rw [hlen]; decide)⟩
  obtain ⟨x2, q2⟩ : ∃ x0, xs[2]? = some x0 := ⟨_, List.getElem?_eq_getElem (by rw [hlen]; decide)⟩
  obtain ⟨x3, q3⟩ : ∃ x0, xs[3]? = some x0 := ⟨_, List.getElem?_eq_getElem (by rw [hlen]; decide)⟩
  obtain ⟨x4, q4⟩ : ∃ x0, xs[4]? = some x0 := ⟨_, List.getElem?_eq_getElem (by rw [hlen]; decide)⟩
  obtain ⟨x5, q5⟩ : ∃ x0, xs[5]? = some x0 := ⟨_, List.getElem?_eq_getElem (by rw [hlen]; decide)⟩
  have g0 := (hg 0 _ rfl).trans q0
  have g1 := (hg 1 _ rfl).trans q1
  have g2 := (hg 2 _ rfl).trans q2
  have g3 := (hg 3 _ rfl).trans q3
  have g4 := (hg 4 _ rfl).trans q4
  have g5 := (hg 5 _ rfl).trans q5
  simp only [List.getElem_toArray, List.getElem_cons_zero, List.getElem_cons_succ, hI, hG, hS, List.drop_zero, List.take_succ_cons, List.take_zero, List.drop_succ_cons] at g0 g1 g2 g3 g4 g5
  obtain ⟨a0, e0, -⟩ := DataW.trod_int underlying3 g0
  obtain ⟨a1, e1, -⟩ := DataW.trod_int underlying3 g1
  obtain ⟨a2, e2, -⟩ := DataW.trod_int underlying3 g2
  obtain ⟨a3, e3, -⟩ := DataW.trod_int underlying3 g3
  obtain ⟨p, hp, ep⟩ := qdP g4
  obtain ⟨a5, e5, -⟩ := DataW.trod_string underlying9 g5
  simp only [GsD.qcL, List.cons.injEq, and_true] at ep
  obtain ⟨rfl, rfl, rfl, rfl, rfl, rfl⟩ := ep
  injection e0 with e0; injection e1 with e1; injection e2 with e2; injection e3 with e3; injection e5 with e5
  subst e0 e1 e2 e3 e5
  exact ⟨⟨a0, a1, a2, a3, p, a5⟩, hp, rfl⟩
end
theorem qjC {α : Type} {P : Nat → α → Prop} : ∀ n, (∀ i, i < n → ∃ x, P i x) → ∃ l : List α, l.length = n ∧ ∀ i x, l[i]? = some x → P i x
 | 0, _ => ⟨[], rfl, fun i x h => by simp at h⟩
 | n + 1, h => by
  obtain ⟨l, hl, hp⟩ := qjC n (fun i hi => h i (by omega))
  obtain ⟨x, hx⟩ := h n (by omega)
  refine ⟨l ++ [x], by simp [hl], fun i y hy => ?_⟩
  by_cases hi : i < l.length
  ·rw [List.getElem?_append_left hi] at hy; exact hp i y hy
  ·rw [List.getElem?_append_right (by omega)] at hy
   have hin : i = n := by
    have := (List.getElem?_eq_some_iff.1 hy).1
    simp at this; omega
   subst hin
   rw [show i - l.length = 0 by omega] at hy
   simp at hy; subst hy; exact hx
theorem qh5 {W : World} {b : Nat} : ∀ (l : List qdn) (off : Nat), (∀ i x, l[i]? = some x → ∀ k u, (stV x)[k]? = some u → W.cell? ⟨b, off + (i * 11 + k), none⟩ = some u) → ∀ k u, (qcm l)[k]? = some u → W.cell? ⟨b, off + k, none⟩ = some u
 | [], off, _, k, u, h => by simp [qcm] at h
 | x :: l, off, hc, k, u, h => by
  simp only [qcm] at h
  by_cases hk : k < 11
  ·rw [List.getElem?_append_left (by rw [qbU]; exact hk)] at h
   have := hc 0 x rfl k u h
   rw [Nat.zero_mul, Nat.zero_add] at this; exact this
  ·rw [List.getElem?_append_right (by rw [qbU]; omega), qbU] at h
   have := qh5 l (off + 11) (fun i y hy j v hv => by
    have := hc (i + 1) y (by simpa using hy) j v hv
    rw [show off + ((i + 1) * 11 + j) = off + 11 + (i * 11 + j) by omega] at this
    exact this) (k - 11) u h
   rw [show off + k = off + 11 + (k - 11) by omega]; exact this
theorem qjW {H : Type} {enc : TypeId × Value → H} {w : World} {base : Nat} {spare : Nat → Bool} {held : Bool} {fuel : Nat} {v : Value} {x : DataW H × List MemPlace}
  (h : DataW.trod enc prog w base spare held fuel 32 [v] = some x) (hw : ∀ n ∈ x.1.weights prog 32, n ≤ 140737488351232) :
  ∃ (A : Option Addr) (c : Nat) (l : List qdn), v = .slice A l.length c ∧ l.length ≤ c ∧ c ≤ maxLen ∧ Row w A (qcm l) ∧ (∀ y ∈ l, y.g.re.ok ∧ y.g.im.ok) ∧ l.length * 112 + 112 ≤ 140737488355328 := by
 rcases open_slice underlying32 h with ⟨hc, -⟩ | ⟨a, n, c, m, k, D, Pl, hc, -, hnc, hcm, hm, hx, hi⟩
 ·injection hc with hc
  exact ⟨none, 0, [], hc, Nat.le_refl _, by simp [maxLen], .inl rfl, (fun y hy => by cases hy), by simp⟩
 ·injection hc with hc
  have hC : prog.cellsOf 37 = 11 := by kernel_rfl
  rw [hC] at hi
  have hnm : n ≤ m := by rw [hm]; split <;> omega
  have hp : ∀ i, i < n → ∃ s : qdn, (∀ k u, (stV s)[k]? = some u → w.cell? (a.add (i * 11 + k)) = some u) ∧ s.g.re.ok ∧ s.g.im.ok := by
   intro i hin
   obtain ⟨cs', hcs, ht⟩ := hi i (by omega)
   obtain ⟨_, hcl, hat⟩ := World.cells?_some hcs
   obtain ⟨s, hs, rfl⟩ := qkH ht
   refine ⟨s, fun k u hk => ?_, hs⟩
   have hk2 := (List.getElem?_eq_some_iff.1 hk).1
   rw [qbU] at hk2
   exact ((congrArg w.cell? (Go.Deep.add_add a (i * 11) k)).symm.trans (hat k (by omega))).trans hk
  have hnb : n * 112 + 112 ≤ 140737488355328 := by
   have hb : prog.bytesOf 37 = 112 := by kernel_rfl
   have := hw (((List.range n).map D).length * prog.bytesOf 37 + ((List.range (m - n)).map fun j => D (n + j)).length * prog.bytesOf 37) (by
    rw [hx]
    simp only [DataW.weights, underlying32, List.mem_cons, List.mem_append]
    refine .inl ?_
    rw [← Nat.add_mul])
   rw [hb] at this
   simp only [List.length_map, List.length_range] at this
   omega
  obtain ⟨l, hl, hpp⟩ := qjC n hp
  subst hl
  refine ⟨some a, c, l, hc, hnc, hcm, ?_, fun t ht => ?_, hnb⟩
  ·by_cases h0 : l.length = 0
   ·left
    rw [List.eq_nil_of_length_eq_zero h0]; rfl
   ·right
    obtain ⟨y, hy⟩ : ∃ y, l[0]? = some y := ⟨_, List.getElem?_eq_getElem (by omega)⟩
    have hs : a.spot = none := World.cell?_spot ((hpp 0 y hy).1 0 _ rfl)
    have ea : ∀ k, a.add k = ⟨a.block, a.off + k, none⟩ := fun k => by cases a; simp at hs; subst hs; exact qcV _ _ _
    refine ⟨a.block, a.off, by cases a; simp at hs; subst hs; rfl, qh5 l a.off fun i t ht k u hk => ?_⟩
    have := (hpp i t ht).1 k u hk
    rw [ea] at this
    exact this
  ·obtain ⟨i, hi'⟩ := List.getElem?_of_mem ht
   exact (hpp i t hi').2
theorem qi9 {H : Type} {ts : List TypeId} {ds : List (DataW H)} (h : (DataW.weightsEach prog ts ds).all (· ≤ reachBytes) = true) {j : Nat} {d : DataW H} (ht : ts[j]? = some 32) (hd : ds[j]? = some d) : ∀ n ∈ d.weights prog 32, n ≤ 140737488351232 := fun n hn =>
 of_decide_eq_true (List.all_eq_true.1 h n (DataW.weights_mem_each ht hd n hn))
theorem qlM {P : Program} {W : World} {H : Type} {enc : TypeId × Value → H} {t e : TypeId} {n base fuel : Nat} {spare : Nat → Bool} {held : Bool} {cs : List Value} {p : List MemPlace} {ks : List Nat} (ht : P.underlying t = some (.array n e)) (he : P.underlying e = some (.int .u8)) (hce : P.cellsOf e = 1)
  (h : DataW.trod enc P W base spare held fuel t cs = some (.agg (ks.map fun k : Nat => .lit (.int .u8 (k : Int))), p)) : ∀ (i k : Nat), ks[i]? = some k → cs[i]? = some (Value.int .u8 (k : Int)) := by
 obtain ⟨xs, m, rfl, hx, hlen, hn, hel⟩ := DataW.trod_array ht h
 simp only [Prod.mk.injEq, DataW.agg.injEq] at hx
 have hk : ks.length = n := by
  have := congrArg List.length hx.1
  simpa [hn] using this
 intro i k hik
 have hi := (List.getElem?_eq_some_iff.1 hik).1
 have h1 := hel i (by omega)
 rw [hce, Nat.mul_one] at h1
 have hix : i < xs.length := by omega
 have hxi : xs[i]? = some xs[i] := List.getElem?_eq_getElem hix
 rw [hxi] at h1
 obtain ⟨z, e1, e2, -⟩ := DataW.trod_int he h1
 have e3 : cs[i]? = some (.int .u8 z) := by
  have := congrArg (fun l => l[0]?) e1
  simpa [List.getElem?_take, List.getElem?_drop] using this
 have e4 := congrArg (fun l => l[i]?) hx.1
 simp only [List.getElem?_map, hxi, hik, Option.map_some, e2] at e4
 injection e4 with e4
 injection e4 with e4
 injection e4 with e4 e5
 rw [e3, e5]
theorem qoP {W : World} (h : laidMetH prog [("math/bits.deBruijn32tab", Rows.laid_math_bits_deBruijn32tab)] W) : T32 W := by
 unfold laidMetH at h
 rw [show ([("math/bits.deBruijn32tab", Rows.laid_math_bits_deBruijn32tab)].filter fun x : String × DataW Unit => x.2.handleName?.isSome) = [] from by kernel_rfl] at h
 obtain ⟨ps, ⟨g', t', cs, fuel, p, q, hg', ht', hv, htr, hrest, rfl⟩, -, -⟩ := h
 have hgn : prog.globalNamed "math/bits.deBruijn32tab" = some 1 := by kernel_rfl
 obtain rfl := Option.some.inj (hgn.symm.trans hg')
 have htt : (prog.globals[1]?).map (·.type) = some 262 := by kernel_rfl
 obtain rfl := Option.some.inj (htt.symm.trans ht')
 rw [show (Rows.laid_math_bits_deBruijn32tab : DataW Unit) = .agg (t32.map fun k : Nat => .lit (.int .u8 (k : Int))) from by kernel_rfl] at htr
 have hcs := qlM (n := 32) (e := 5) (by kernel_rfl) (by kernel_rfl) (by kernel_rfl) htr
 have hcell := World.var?_cell hg' hv
 intro k hk
 have hkt : t32[k]? = some (t32.getD k 0) := by
  have hl : t32.length = 32 := by decide
  rw [List.getElem?_eq_getElem (by omega)]
  simp [List.getD, List.getElem?_eq_getElem (show k < t32.length by omega)]
 refine (hcell k).trans ?_
 have h2 := hcs k _ hkt
 simpa using h2
end
section
open Go
set_option maxRecDepth 100000
theorem RefineOrder.wf0 : Rows.refineOrderRow.wf (OpenSpec.ofChange Rows.refineOrderSpec) = true := by kernel_rfl
theorem RefineOrder.lay : laidOutB Tryz.pinned.checked.prog = true := by kernel_rfl
theorem RefineOrder.map : mapsRowed Tryz.pinned.checked.prog = true := by kernel_rfl
theorem RefineOrder.tie : namedTie Tryz.pinned.checked.prog Rows.refineOrderRow.named Rows.refineOrderSpec.vars = true := by kernel_rfl
theorem RefineOrder.inp : (Rows.refineOrderRow.inPlace == Tryz.pinned.checked.prog.inPlace 3) = true := by kernel_rfl
theorem RefineOrder.unf : (Rows.refineOrderRow.unfollowed == Tryz.pinned.checked.prog.unfollowed 3) = true := by kernel_rfl
theorem RefineOrder.rec : (Rows.refineOrderRow.recurses == Tryz.pinned.checked.prog.recurses 3) = true := by kernel_rfl
theorem RefineOrder.nam : (Rows.refineOrderRow.named == Tryz.pinned.checked.prog.varsNamed 3) = true := by kernel_rfl
theorem RefineOrder.pk : (Rows.refineOrderRow.plainKeys == Tryz.pinned.checked.prog.plainKeys) = true := by kernel_rfl
theorem RefineOrder.sh : Tryz.pinned.checked.prog.stopsHeard = true := by kernel_rfl
theorem RefineOrder.me : Tryz.pinned.checked.prog.mayEnter = true := by kernel_rfl
theorem RefineOrder.li : (Rows.refineOrderRow.lifted == Tryz.pinned.checked.prog.liftsFinal) = true := by kernel_rfl
theorem RefineOrder.mk : (Tryz.pinned.checked.prog.make == some Rows.refineOrderRow.make) = true := by kernel_rfl
theorem RefineOrder.facts : joinedFacts Tryz.pinned.checked.prog 3 f3 Rows.refineOrderSpec Rows.refineOrderRow = true := by
 unfold joinedFacts
 rw [RefineOrder.wf0, RefineOrder.lay, RefineOrder.map, RefineOrder.tie, RefineOrder.inp, RefineOrder.unf, RefineOrder.rec, RefineOrder.nam, RefineOrder.pk, RefineOrder.sh, RefineOrder.me, RefineOrder.li, RefineOrder.mk]
 kernel_rfl
theorem RefineOrder.wf : Rows.refineOrderRow.wfByText (OpenSpec.ofChange Rows.refineOrderSpec) = true := by kernel_rfl
theorem RefineOrder.goes : false = Rows.refineOrderRow.goesBy Tryz.pinned.checked.prog := by kernel_rfl
theorem RefineOrder.named : Tryz.pinned.checked.prog.funcNamed Rows.refineOrderRow.func = some 3 := by kernel_rfl
end
section
open Go
set_option maxRecDepth 100000
theorem qkL : Tryz.pinned.checked.prog.looks [] = false := by kernel_rfl
theorem qlh : Tryz.pinned.checked.prog.mainIs = some (Rows.refineOrderCard.stood.harness.1, Rows.refineOrderCard.stood.harness.2.toList) := by kernel_rfl
theorem qbL : laidOutB prog = true := by kernel_rfl
theorem qnR : ownKnob prog.godebug = none := by kernel_rfl
end
end Go.Proofs.YtfdnledkcongaaaGreatDoor
