/- Texts of one claim laid together: RfG, LwA, LwB, Awk, DnT, OrT. -/
import Derived.Test.YtfdnledkcongaaaGreatDoorQ14
set_option linter.all false
namespace Go.Proofs.YtfdnledkcongaaaGreatDoor
open Go.RowKit Go.Proofs.Tryz
section
attribute [local go_sem] qah qae
def qm0 (w : World) (u : RuD) (s : SqD) (en : Ending) (w' : World) : Prop :=
 Kept w w' ∧ if sqB s = true ∧ (qaj s).2 = 0 then ∃ p v L, en = .returned (.tuple #[.pointer (some ⟨p, 0, none⟩), .int .i64 0]) ∧ RfM w' w.heap.size p v u L ∧ qbm L
 else en = .returned (.tuple #[.pointer none, .int .i64 (qgm s).2])
theorem qjV {s : SqD} {t : Nat} (hs : sqB s = true) (ht : t ≤ 2) : qbm [⟨s, 0, t, false, 0, 0, 0, 0⟩] := by
 have e : stR [⟨s, 0, t, false, 0, 0, 0, 0⟩] = ⟨[⟨s, t, 0, none⟩], 1⟩ := by simp [stR, NdR.toD]
 have r : Rel [⟨s, qaD ⟨0, ⟨⟨false, ⟨#[]⟩, 0⟩, ⟨false, ⟨#[]⟩, 0⟩⟩, ⟨false, ⟨#[]⟩, 0⟩, 0, 0⟩ s, 0, none⟩] [⟨s, t, 0, none⟩] := ⟨rfl, fun j a ha => by
  cases j with
  | zero => cases ha; exact ⟨t, ht, rfl⟩
  | succ j => simp at ha⟩
 exact ⟨by rw [e]; exact GoodS.rel r (qec hs), by rw [e]; exact Whole.rel r (qdN _ s)⟩
set_option maxRecDepth 100000 in
set_option maxHeartbeats 6400000 in
theorem qnw {w : World} {u : RuD} (s : SqD) (hs : s.ok) (hu : u.ok) :
  Calls prog 25 #[.agg #[.bool s.left.neg, .string s.left.n, .int .i64 s.left.e, .bool s.low.neg, .string s.low.n, .int .i64 s.low.e, .int .i64 s.e], .agg (ruL u).toArray] w (qm0 w u s) := by
 have RT := qh (fun W => qjX s W ⟨hs.left, hs.low⟩)
 have CV := qh (fun (h : sqB s = true) W => qgI s W h)
 have PX0 : Hid (sqB s = false → ∀ w', Kept w w' → qm0 w u s (.returned (.tuple #[.pointer none, .int .i64 240])) w') := qh fun h w' hk => by
  refine ⟨hk, ?_⟩
  rw [if_neg (by rw [h]; simp)]
  unfold qgm; rw [h]; rfl
 have PX1 : Hid (sqB s = true → (qaj s).2 ≠ 0 → ∀ w', Kept w w' → qm0 w u s (.returned (.tuple #[.pointer none, .int .i64 (qaj s).2])) w') := qh fun h h2 w' hk => by
  refine ⟨hk, ?_⟩
  rw [if_neg (fun h3 => h2 h3.2)]
  unfold qgm; rw [if_pos h]
 have PX2 : Hid (sqB s = true → (qaj s).2 = 0 → ∀ w' p v t, t ≤ 2 → Kept w w' → RfM w' w.heap.size p v u [⟨s, 0, t, false, 0, 0, 0, 0⟩] → qm0 w u s (.returned (.tuple #[.pointer (some ⟨p, 0, none⟩), .int .i64 0])) w') := qh fun h h2 w' p v t ht hk hM => by
  refine ⟨hk, ?_⟩
  rw [if_pos ⟨h, h2⟩]
  exact ⟨p, v, _, rfl, hM, qjV h ht⟩
 have HU := qh hu
 generalize qm0 w u s = RP at *
 generalize (qaj s).2 = ce at *
 generalize sqB s = sb at *
 obtain ⟨RV, hRV⟩ : ∃ RV : List Value, RV = ruL u := ⟨_, rfl⟩
 have HRL := qh (show RV.length = 12 by rw [hRV]; rfl)
 have HRV := qh hRV
 have HRF := qh (show RV.toArray = #[.int .i64 u.k, .bool u.c.re.neg, .string u.c.re.n, .int .i64 u.c.re.e, .bool u.c.im.neg, .string u.c.im.n, .int .i64 u.c.im.e, .bool u.r.neg, .string u.r.n, .int .i64 u.r.e, .float .f64 u.x, .float .f64 u.y] by rw [hRV])
 rw [← hRV]
 clear hs hu hRV
 obtain ⟨⟨a0, a1, a2⟩, ⟨a3, a4, a5⟩, a6⟩ := s
 simp only at RT CV ⊢
 go_enter func25, ntmps25
 go_upto_region 1 with fail
 have B0 := Bx.new w (LC3 a0 a1 a2 a3 a4 a5 a6) 26 w.heap.size rfl
 have K1 := Kept.new (Below.refl _ w) (.cells (LC3 a0 a1 a2 a3 a4 a5 a6).toArray 26)
 have B1 := Bx.new (w.alloc (.cells (LC3 a0 a1 a2 a3 a4 a5 a6).toArray 26)) RV 31 (w.heap.size + 1) (by simp)
 replace B0 := qh (B0.kept (Kept.new (Below.refl _ _) (.cells RV.toArray 31)))
 replace B1 := qh B1
 replace K1 := qh (Kept.new K1 (.cells RV.toArray 31))
 obtain ⟨b, hb⟩ : ∃ b, b = w.heap.size := ⟨_, rfl⟩
 rw [← hb] at B0 B1 ⊢
 have HB := qh (show w.heap.size ≤ b by omega)
 clear hb
 generalize (w.alloc _).alloc _ = w1 at *
 obtain ⟨c0, c1, c2, c3, c4, c5, c6⟩ := B0.out.c7
 go_wp2_with fail
 refine (RT.out _).mono ?_
 rintro en w2 ⟨rfl, hk2⟩
 have K2 := qh (K1.out.trans' hk2)
 replace B0 := qh (B0.out.kept hk2)
 replace B1 := qh (B1.out.kept hk2)
 clear hk2 RT K1 c0 c1 c2 c3 c4 c5 c6
 cases sb with
 | false =>
  have HP := PX0.out (by simp) _ K2.out
  go_wp2_with fail
  exact HP
 | true =>
  go_upto_region 3 with fail
  refine wp_region_list ?_
  refine wpList_plain rfl fun K hK => qai (vs := (LC3 a0 a1 a2 a3 a4 a5 a6)) (b := b) (n := 7) _ rfl rfl B0.out rfl underlying26 rfl (by kernel_rfl) (hK _ _ ?_)
  clear hK K
  refine wpList_plain rfl fun K hK => ?_
  go_step
  (with_reducible refine (CV.out (by simp) _).mono ?_)
  rintro en w3 ⟨c1, c2, c3, h1, h2, h3, rfl, hk3⟩
  refine hK _ _ ?_
  clear hK K CV
  refine wpList_plain rfl fun K hK => ?_
  go_step
  refine hK _ _ ?_
  clear hK K
  refine wpList_plain rfl fun K hK => ?_
  go_step
  refine hK _ _ ?_
  clear hK K
  refine wpList_plain rfl fun K hK => ?_
  go_step
  refine hK _ _ ?_
  clear hK K
  refine wpList_plain rfl fun K hK => ?_
  go_step
  refine hK _ _ ?_
  clear hK K
  have K3 := qh (Kept.new (K2.out.trans' hk3) (.cells #[.complex .f64 0 0, .float .f64 0] 85))
  have BB := qh (Bx.new w3 [.complex .f64 0 0, .float .f64 0] 85 w3.heap.size rfl)
  have hk4 := Kept.new hk3 (.cells #[.complex .f64 0 0, .float .f64 0] 85)
  have hlt := B1.out.lt
  replace B0 := qh (B0.out.kept hk4)
  replace B1 := qh (B1.out.kept hk4)
  obtain ⟨d, hd⟩ : ∃ d, d = w3.heap.size := ⟨_, rfl⟩
  have HBD := qh (show b + 1 < d by have := hk3.size; omega)
  rw [← hd] at BB ⊢
  clear hd hk3 hk4 hlt K2
  generalize World.alloc w3 _ = w4 at *
  refine wpList_plain rfl fun K hK => qaa (vs := [.complex .f64 c1 c2, .float .f64 c3]) (b := d) (n := 2) _ _ rfl rfl rfl BB.out rfl rfl (by kernel_rfl) rfl (hK _ _ ?_)
  clear hK K
  replace BB := qh (BB.out.row [.complex .f64 c1 c2, .float .f64 c3])
  replace B0 := qh (B0.out.off (g := d) (by have := HBD.out; omega) [.complex .f64 c1 c2, .float .f64 c3])
  replace B1 := qh (B1.out.off (g := d) (by have := HBD.out; omega) [.complex .f64 c1 c2, .float .f64 c3])
  replace K3 := qh (Kept.row K3.out (b := d) (by have := HBD.out; have := HB.out; omega) [.complex .f64 c1 c2, .float .f64 c3])
  generalize World.setRow w4 _ _ = w5 at *
  by_cases hce : ce = 0
  ·subst hce
   have PX := qh (PX2.out (by simp) (by simp))
   have TD := qh (fun W => qjn u HU.out c1 c2 c3 h1 h2 h3 W)
   have HTT := qh (qh9 u c1 c2 c3)
   obtain ⟨tt, htt⟩ : ∃ tt, tt = qfK u c1 c2 c3 := ⟨_, rfl⟩
   rw [← htt] at TD HTT
   rw [← HRV.out] at TD
   clear htt PX0 PX1 PX2
   go_upto_region 6 with fail
   have SK : Hid (∀ W, Kept w5 W → W.rangeAt b 0 (LC3 a0 a1 a2 a3 a4 a5 a6) ∧ W.rangeAt (b + 1) 0 RV ∧ W.rangeAt d 0 [.complex .f64 c1 c2, .float .f64 c3]) := qh fun W h => ⟨(B0.out.kept h).range (fun j v hv => by rw [Nat.zero_add]; exact hv), (B1.out.kept h).range (fun j v hv => by rw [Nat.zero_add]; exact hv), (BB.out.kept h).range (fun j v hv => by rw [Nat.zero_add]; exact hv)⟩
   have hS0 := SK.out _ (Below.refl _ w5).drew
   refine qab (fun W => W.rangeAt b 0 (LC3 a0 a1 a2 a3 a4 a5 a6) ∧ W.rangeAt (b + 1) 0 RV ∧ W.rangeAt d 0 [.complex .f64 c1 c2, .float .f64 c3]) [10] (by kernel_rfl) ?_ (fun hHeld => ?_)
   ·(first | assumption | exact SK.out _ (K15.out.trans' (Kept.new (Below.refl _ _) _)) | exact SK.out _ ((K15.out.trans' (Kept.new (Below.refl _ _) _)).trans' (Kept.new (Below.refl _ _) _)))
   refine yS (v := .agg RV.toArray) 0 19 ?_ ?_
   ·intro w hSw; (try dsimp only at hSw); exact qba (vs := RV) _ rfl rfl hSw.2.1 underlying31 rfl (by rw [HRL.out]; kernel_rfl)
   try simp only [Act.put, tdy]
   refine yS (v := .agg #[.bool a0, .string a1, .int .i64 a2, .bool a3, .string a4, .int .i64 a5, .int .i64 a6]) 1 20 ?_ ?_
   ·intro w hSw; (try dsimp only at hSw); exact qba (vs := (LC3 a0 a1 a2 a3 a4 a5 a6)) _ rfl rfl hSw.1 underlying26 rfl (by kernel_rfl)
   try simp only [Act.put, tdy]
   refine yS (v := .agg RV.toArray) 2 21 ?_ ?_
   ·intro w hSw; (try dsimp only at hSw); exact qba (vs := RV) _ rfl rfl hSw.2.1 underlying31 rfl (by rw [HRL.out]; kernel_rfl)
   try simp only [Act.put, tdy]
   refine yS (v := .agg #[.complex .f64 c1 c2, .float .f64 c3]) 3 22 ?_ ?_
   ·intro w hSw; (try dsimp only at hSw); exact qba (vs := [.complex .f64 c1 c2, .float .f64 c3]) _ rfl rfl hSw.2.2 underlying85 rfl (by kernel_rfl)
   try simp only [Act.put, tdy]
   refine oS 4 fun K hK => ?_
   go_simp
   (refine (TD.out _).mono ?_; rintro en w15 ⟨rfl, hk15⟩; have K15 : Hid (Kept w5 w15) := qh ((Below.refl _ w5).drew.trans (hk15.mono (Nat.le_refl _))); have hS15 := SK.out w15 K15.out)
   refine hK.out _ _ ?_ (fun hHeld => ?_)
   ·(first | assumption | exact SK.out _ (K15.out.trans' (Kept.new (Below.refl _ _) _)) | exact SK.out _ ((K15.out.trans' (Kept.new (Below.refl _ _) _)).trans' (Kept.new (Below.refl _ _) _)))
   clear hK K
   try simp only [Act.put, tdy]
   refine wS 5 24 ?_
   refine oS 6 fun K hK => ?_
   go_simp
   refine hK.out _ _ ?_ (fun hHeld => ?_)
   ·(first | assumption | exact SK.out _ (K15.out.trans' (Kept.new (Below.refl _ _) _)) | exact SK.out _ ((K15.out.trans' (Kept.new (Below.refl _ _) _)).trans' (Kept.new (Below.refl _ _) _)))
   clear hK K
   try simp only [Act.put, tdy]
   refine yS (v := .agg (RV ++ [Value.slice (some ⟨w15.heap.size, 0, none⟩) 1 1]).toArray) 7 26 ?_ ?_
   ·intro w hSw; exact qfH (RV ++ [Value.slice (some ⟨w15.heap.size, 0, none⟩) 1 1]) rfl (by rw [HRV.out]; kernel_rfl)
   try simp only [Act.put, tdy]
   refine oS 8 fun K hK => ?_
   go_simp
   refine hK.out _ _ ?_ (fun hHeld => ?_)
   ·(first | assumption | exact SK.out _ (K15.out.trans' (Kept.new (Below.refl _ _) _)) | exact SK.out _ ((K15.out.trans' (Kept.new (Below.refl _ _) _)).trans' (Kept.new (Below.refl _ _) _)))
   clear hK K
   try simp only [Act.put, tdy]
   refine oS 9 fun K hK => ?_
   go_simp
   refine hK.out _ _ ?_ (fun hHeld => ?_)
   ·(first | assumption | exact SK.out _ (K15.out.trans' (Kept.new (Below.refl _ _) _)) | exact SK.out _ ((K15.out.trans' (Kept.new (Below.refl _ _) _)).trans' (Kept.new (Below.refl _ _) _)))
   clear hK K
   try simp only [Act.put, tdy]
   refine eS 10 fun K hK => ?_
   go_simp
   refine hK.out _ _ ?_
   clear hK K
   try simp only [Act.put, tdy]
   refine dS ?_ _
   have hK5 : Kept w w15 := K3.out.trans' K15.out
   have hz6 : w.heap.size ≤ w15.heap.size := hK5.size
   have HO := Own.new w15 #[.bool a0, .string a1, .int .i64 a2, .bool a3, .string a4, .int .i64 a5, .int .i64 a6, .int .i64 0, .int .u8 (tt : Int), .bool false, .int .i64 0, .int .i64 0, .int .i64 0, .int .i64 0] 104 (0, 0) 1 14 (qbT [⟨⟨⟨a0, a1, a2⟩, ⟨a3, a4, a5⟩, a6⟩, 0, tt, false, 0, 0, 0, 0⟩]) w.heap.size w15.heap.size rfl hz6 (by unfold maxLen; omega) rfl rfl (.inr rfl)
   have hK6 := Kept.new hK5 (.cells #[.bool a0, .string a1, .int .i64 a2, .bool a3, .string a4, .int .i64 a5, .int .i64 a6, .int .i64 0, .int .u8 (tt : Int), .bool false, .int .i64 0, .int .i64 0, .int .i64 0, .int .i64 0] 104)
   generalize hW6 : w15.alloc (.cells #[.bool a0, .string a1, .int .i64 a2, .bool a3, .string a4, .int .i64 a5, .int .i64 a6, .int .i64 0, .int .u8 (tt : Int), .bool false, .int .i64 0, .int .i64 0, .int .i64 0, .int .i64 0] 104) = w6 at *
   have hs6 : w6.heap.size = w15.heap.size + 1 := by rw [← hW6]; simp
   clear hW6
   have hB7 := Bx.new w6 (RV ++ [Value.slice (some ⟨w15.heap.size, 0, none⟩) 1 1]) 80 (w15.heap.size + 1) (by omega)
   have HP := PX.out _ (w15.heap.size + 1) (.slice (some ⟨w15.heap.size, 0, none⟩) 1 1) tt HTT.out (Kept.new hK6 (.cells (RV ++ [Value.slice (some ⟨w15.heap.size, 0, none⟩) 1 1]).toArray 80)) ⟨by rw [← HRV.out]; exact hB7, HO.alloc _, by omega, fun i hi => by cases hi; show w15.heap.size ≠ w15.heap.size + 1; omega⟩
   clear HO hB7
   go_wp2_with fail
   exact HP
  ·have HP := PX1.out (by simp) hce _ K3.out
   have hne : (ce != 0) = true := by simpa using hce
   clear PX0 PX2 hce
   go_wp2_with fail
   exact HP
end
structure qdn where
 d : Int
 a : Int
 b : Int
 n : Int
 g : GsD
 t : ByteArray
def stV (s : qdn) : List Value := [.int .i64 s.d, .int .i64 s.a, .int .i64 s.b, .int .i64 s.n, .bool s.g.re.neg, .string s.g.re.n, .int .i64 s.g.re.e, .bool s.g.im.neg, .string s.g.im.n, .int .i64 s.g.im.e, .string s.t]
def qcm : List qdn → List Value
 | [] => []
 | s :: l => stV s ++ qcm l
theorem qbU (s : qdn) : (stV s).length = 11 := rfl
theorem qbY : ∀ l : List qdn, (qcm l).length = l.length * 11
 | [] => rfl
 | n :: l => by simp only [qcm, List.length_append, qbU, qbY l, List.length_cons]; omega
theorem qc8 : ∀ l m : List qdn, qcm (l ++ m) = qcm l ++ qcm m
 | [], m => rfl
 | n :: l, m => by simp only [List.cons_append, qcm, qc8 l m, List.append_assoc]
theorem qfv : ∀ (l : List qdn) (k : Nat) (n : qdn) (i : Nat), l[k]? = some n → i < 11 → (qcm l)[k * 11 + i]? = (stV n)[i]?
 | [], k, n, i, h, _ => by simp at h
 | x :: l, 0, n, i, h, hi => by
  have : x = n := by simpa using h
  subst this
  simp only [qcm, Nat.zero_mul, Nat.zero_add]
  rw [List.getElem?_append_left (by rw [qbU]; exact hi)]
 | x :: l, k + 1, n, i, h, hi => by
  have e : (k + 1) * 11 + i = 11 + (k * 11 + i) := by omega
  simp only [qcm]
  rw [e, List.getElem?_append_right (by rw [qbU]; omega), qbU, Nat.add_sub_cancel_left]
  exact qfv l k n i (by simpa using h) hi
theorem qcY (n : qdn) : qcm [n] = stV n := by simp [qcm]
theorem qbJ (l : List qdn) : ∀ u ∈ qcm l, u.oneCell' = true := by
 induction l with
 | nil => intro u h; cases h
 | cons n l ih =>
  intro u h
  rcases List.mem_append.1 h with h | h
  ·exact List.all_eq_true.1 (show (stV n).all Value.oneCell' = true from rfl) u h
  ·exact ih u h
def qoS (s : qdn) : qdn := ⟨2, 0, 0, s.n, s.g, ⟨#[]⟩⟩
def qc : List qdn → List qdn
 | [] => []
 | s :: l => if s.d = 2 then qoS s :: qc l else qc l
theorem qhf : ∀ l, (qc l).length ≤ l.length
 | [] => Nat.le_refl _
 | s :: l => by
  have := qhf l
  unfold qc
  split <;> simp <;> omega
theorem qg : ∀ l m, qc (l ++ m) = qc l ++ qc m
 | [], m => rfl
 | s :: l, m => by
  rw [List.cons_append, qc, qc, qg l m]
  split <;> simp
theorem qkO : (prog.info? 37).map (fun i => (i.zero, i.size, i.bytes)) = some (some (.agg ZL5.toArray), 11, 112) := by kernel_rfl
set_option maxRecDepth 100000 in
set_option maxHeartbeats 6400000 in
theorem qoq {w : World} {A : Option Addr} {c : Nat} {l : List qdn} (hr : Row w A (qcm l)) (hb : l.length * 112 + 112 ≤ 140737488355328) (hc : l.length ≤ c) (hcm : c ≤ maxLen) :
  Calls prog 7 #[.slice A l.length c, .bool true] w fun en w' => ∃ x, en = .returned x ∧ Own w' w.heap.size 11 x (qc l).length (qcm (qc l)) ∧ Kept w w' := by
 have HR := qh hr
 have HB := qh hb
 obtain ⟨N, hN⟩ : ∃ N, N = l.length := ⟨_, rfl⟩
 rw [← hN] at hc HB ⊢
 have HN := qh hN
 have hN2 : N ≤ 1256584717457 := by omega
 obtain ⟨FF, hFF⟩ : ∃ FF, FF = qc l := ⟨_, rfl⟩
 rw [← hFF]
 have HF0 := qh (show qc (l.take N) = FF by rw [hN, List.take_length, hFF])
 clear hr hb hN hFF
 go_enter func7, ntmps7
 go_wp2_with fail
 go_loopg [5, 6] N (fun gh v5 v6 wr => ∃ (j : Nat) (vq : Value), j + gh = N ∧ v5 = vq ∧ v6 = .int .i64 (j : Int) ∧ Own wr w.heap.size 11 vq (qc (l.take j)).length (qcm (qc (l.take j))) ∧ Kept w wr)
 case atStart => exact ⟨0, _, by omega, rfl, rfl, Own.nil _ _ _, Below.refl _ _⟩
 case round =>
  obtain ⟨j, vq, hjg, rfl, rfl, ho, hk⟩ := hrel
  have HO := qh ho
  have HK := qh hk
  clear ho hk
  cases gk with
  | zero =>
   obtain rfl : j = N := by omega
   rw [HF0.out] at HO
   obtain ⟨A2, c2, rfl, -, -, -, -, -⟩ := HO.out.form
   go_wp2_with fail
   go_ret
   exact ⟨_, rfl, HO.out, HK.out⟩
  | succ gj =>
   obtain ⟨s, hs⟩ : ∃ s, l[j]? = some s := ⟨_, List.getElem?_eq_getElem (by have := HN.out; omega)⟩
   have hjN : (j : Int) < (N : Int) := by omega
   have hj0 : (0 : Int) ≤ (j : Int) := by omega
   have ewj : IntKind.i64.wrap ((j : Int) + 1) = ((j + 1 : Nat) : Int) := by rw [IntWalk.i64_in _ (by omega)]; omega
   have hlt : j < l.length := (List.getElem?_eq_some_iff.1 hs).1
   have htk : l.take (j + 1) = l.take j ++ [s] := by rw [List.take_add_one, hs]; rfl
   have HTK := qh (show qc (l.take (j + 1)) = qc (l.take j) ++ qc [s] by rw [htk, qg])
   have HLE := qh (show (qc (l.take j)).length + 1 ≤ N by have := qhf (l.take j); rw [List.length_take] at this; omega)
   obtain ⟨g, off, rfl, hcs⟩ : ∃ g off, A = some ⟨g, off, none⟩ ∧ ∀ i y, (stV s)[i]? = some y → wr.cell? ⟨g, off + j * 11 + i, none⟩ = some y := by
    rcases (HR.out.kept HK.out) with h | ⟨g, off, e, hx⟩
    ·have := qbY l; rw [h] at this; simp at this; omega
    ·exact ⟨g, off, e, fun i y hy => by rw [Nat.add_assoc]; exact hx _ _ ((qfv l j s i hs (List.getElem?_eq_some_iff.1 hy).1).trans hy)⟩
   have HCS := qh hcs
   clear hs hlt htk hcs
   go_upto_region 5 with fail
   refine wp_region_list ?_
   refine wpList_plain rfl fun K hK => ?_
   go_step
   refine hK _ _ ?_
   clear hK K
   refine wpList_plain rfl fun K hK => ?_
   go_step
   refine hK _ _ ?_
   clear hK K
   refine wpList_plain rfl fun K hK => ?_
   go_step
   refine hK _ _ ?_
   clear hK K
   refine wpList_plain rfl fun K hK => qav (vs := stV s) (g := g) (off := off + j * 11) (n := 11) _ rfl rfl HCS.out rfl underlying37 rfl (by kernel_rfl) (hK _ _ ?_)
   clear hK K HCS
   refine wpList_plain rfl fun K hK => ?_
   go_step
   refine hK _ _ ?_
   clear hK K
   have KY := qh (Kept.new (Below.refl _ wr) (.cells ZL5.toArray 37))
   have BY := qh (Bx.new wr ZL5 37 wr.heap.size rfl)
   obtain ⟨y, hy⟩ : ∃ y, y = wr.heap.size := ⟨_, rfl⟩
   have HY := qh (show wr.heap.size ≤ y by omega)
   rw [← hy] at BY ⊢
   clear hy
   generalize World.alloc wr _ = w4 at *
   refine wpList_plain rfl fun K hK => qaa (vs := stV s) (b := y) (n := 11) _ _ rfl rfl rfl BY.out rfl rfl (by kernel_rfl) rfl (hK _ _ ?_)
   clear hK K
   replace BY := qh (BY.out.row (stV s))
   replace KY := qh (Kept.row KY.out HY.out (stV s))
   generalize World.setRow w4 _ _ = w5 at *
   have HO5 := qh (HO.out.kept KY.out)
   have HK5 := qh (HK.out.trans' KY.out)
   obtain ⟨sd, sa, sb, sn, ⟨⟨r0, r1, r2⟩, ⟨i0, i1, i2⟩⟩, st⟩ := s
   have c0 := BY.out.c 0 (show (stV ⟨sd, sa, sb, sn, ⟨⟨r0, r1, r2⟩, ⟨i0, i1, i2⟩⟩, st⟩)[0]? = some (.int .i64 sd) from rfl)
   have c3 := BY.out.c 3 (show (stV ⟨sd, sa, sb, sn, ⟨⟨r0, r1, r2⟩, ⟨i0, i1, i2⟩⟩, st⟩)[3]? = some (.int .i64 sn) from rfl)
   have c4 := BY.out.c 4 (show (stV ⟨sd, sa, sb, sn, ⟨⟨r0, r1, r2⟩, ⟨i0, i1, i2⟩⟩, st⟩)[4]? = some (.bool r0) from rfl)
   have c5 := BY.out.c 5 (show (stV ⟨sd, sa, sb, sn, ⟨⟨r0, r1, r2⟩, ⟨i0, i1, i2⟩⟩, st⟩)[5]? = some (.string r1) from rfl)
   have c6 := BY.out.c 6 (show (stV ⟨sd, sa, sb, sn, ⟨⟨r0, r1, r2⟩, ⟨i0, i1, i2⟩⟩, st⟩)[6]? = some (.int .i64 r2) from rfl)
   have c7 := BY.out.c 7 (show (stV ⟨sd, sa, sb, sn, ⟨⟨r0, r1, r2⟩, ⟨i0, i1, i2⟩⟩, st⟩)[7]? = some (.bool i0) from rfl)
   have c8 := BY.out.c 8 (show (stV ⟨sd, sa, sb, sn, ⟨⟨r0, r1, r2⟩, ⟨i0, i1, i2⟩⟩, st⟩)[8]? = some (.string i1) from rfl)
   have c9 := BY.out.c 9 (show (stV ⟨sd, sa, sb, sn, ⟨⟨r0, r1, r2⟩, ⟨i0, i1, i2⟩⟩, st⟩)[9]? = some (.int .i64 i2) from rfl)
   clear KY BY HY HK HO
   by_cases hd : sd = 2
   ·subst hd
    have HT2 := qh (show qc (l.take (j + 1)) = qc (l.take j) ++ [⟨2, 0, 0, sn, ⟨⟨r0, r1, r2⟩, ⟨i0, i1, i2⟩⟩, ⟨#[]⟩⟩] by rw [HTK.out]; rfl)
    obtain ⟨j0, hj1, hj2, hj3, hj5⟩ := info_parts qkO
    obtain ⟨m, hm⟩ : ∃ m, m = (qc (l.take j)).length := ⟨_, rfl⟩
    have HM := qh hm
    rw [← hm] at HO5 HLE
    have hle := HLE.out
    have hbase : w.heap.size ≤ w5.heap.size := HK5.out.size
    clear hm HTK
    go_wp2_with (at_builtin; refine qap _ rfl _ _ 32 rfl w.heap.size 37 j0 (.agg ZL5.toArray) 11 112 underlying32 hj1 hj2 hj3 hj5 rfl (by decide) u5 m (qcm (qc (l.take j))) rfl (HO5.out.alloc _) (some ⟨w5.heap.size, 0, none⟩) 1 1 (stV ⟨2, 0, 0, sn, ⟨⟨r0, r1, r2⟩, ⟨i0, i1, i2⟩⟩, ⟨#[]⟩⟩) rfl rfl (Row.qbA _ _ _ _ _ _ rfl rfl) (by rw [← qcY]; exact qbJ _) (by unfold maxLen; omega) (by omega) (by simp; omega) ?_)
    intro v9 w9 hown9 hg9 hv9
    have HK9 := qh ((Kept.new HK5.out _).grown hg9 (Kept.new HK5.out _).size (fun i hi => (HO5.out.lt i hi).1))
    have hO9 : Own w9 w.heap.size 11 v9 (qc (l.take (j + 1))).length (qcm (qc (l.take (j + 1)))) := by
     rw [HT2.out, qc8, qcY, List.length_append, ← HM.out]; exact hown9
    obtain ⟨A9, c9', hv9', -, -, -, -, -⟩ := hown9.form
    subst hv9'
    have HO9 := qh hO9
    clear hown9 hg9 hv9 hO9 HO5 HK5 c0 c3 c4 c5 c6 c7 c8 c9
    go_wp2_with fail
    go_roundg gj
    case measure => omega
    case rel => exact ⟨j + 1, _, by omega, rfl, by go_num, HO9.out, HK9.out⟩
   ·have HT2 := qh (show qc (l.take (j + 1)) = qc (l.take j) by rw [HTK.out, qc, if_neg hd, qc, List.append_nil])
    have hds : (sd == 2) = false := by simpa using hd
    clear hd HTK c3 c4 c5 c6 c7 c8 c9
    go_wp2_with fail
    go_roundg gj
    case measure => omega
    case rel => exact ⟨j + 1, _, by omega, rfl, by go_num, by rw [HT2.out]; exact HO5.out, HK5.out⟩
section
attribute [local go_sem] qah qae
structure qdn.ok (s : qdn) : Prop where
 a : s.a = 0
 b : s.b = 0
 d : s.d = 1 ∨ s.d = 2
 re : s.g.re.ok
 im : s.g.im.ok
def qcT (n : Nat) (w : World) (en : Ending) (w' : World) : Prop := ∃ b : Bool, en = .returned (.bool b) ∧ (b = false → n ≤ 60) ∧ Kept w w'
theorem qcT.of {n : Nat} {w w' : World} (b : Bool) (h : b = false → n ≤ 60) (hk : Kept w w') : qcT n w (.returned (.bool b)) w' := ⟨b, rfl, h, hk⟩
theorem Kept.far {s : Nat → Prop} {w a b : World} (hk : Kept w a) (hf : Far s a b) (hs : ∀ k, s k → w.heap.size ≤ k) : Kept w b :=
 ⟨hf.os.trans hk.os, hf.tape.trans hk.tape, hf.output.trans hk.output, Nat.le_trans hk.size hf.size, fun i hi => (hf.block i (Nat.lt_of_lt_of_le hi hk.size) (fun e => by have := hs i e; omega)).trans (hk.block i hi)⟩
theorem qny {s : SqD} (h : ¬ (sqB s = true ∧ (qaj s).2 = 0)) : (qgm s).2 ≠ 0 := by
 unfold qgm
 split
 ·rename_i h1; exact fun h2 => h ⟨h1, h2⟩
 ·show (240 : Int) ≠ 0; decide
theorem RfM.qfW {W : World} {base p : Nat} {v : Value} {u : RuD} {L : List NdR} (h : RfM W base p v u L) : ∀ k, TrB p v k → base ≤ k := by
 rintro k (rfl | hk)
 ·exact h.ge
 ·exact (h.own.lt k hk).1
structure qi1 (w : World) (tb base p : Nat) (u : RuD) (W : World) (v : Value) (L : List NdR) : Prop where
 tree : RfM W base p v u L
 good : qbm L
 two : Bx W tb [.pointer (some ⟨p, 0, none⟩), .pointer none]
 off : ∀ i, TrB p v i → i ≠ tb
 kept : Kept w W
theorem qi1.keep {w W W' : World} {tb base p : Nat} {u : RuD} {v : Value} {L : List NdR} (h : qi1 w tb base p u W v L) (hk : Kept W W') : qi1 w tb base p u W' v L :=
 ⟨h.tree.kept hk, h.good, h.two.kept hk, h.off, h.kept.trans' hk⟩
theorem qi1.post {w W W' : World} {tb base p : Nat} {u : RuD} {v : Value} {L L' : List NdR} (h : qi1 w tb base p u W v L) (hb : w.heap.size ≤ base) (hp : qf9 W base p v u L' W') : ∃ v', qi1 w tb base p u W' v' L' := by
 obtain ⟨hg, v', hM, hF, hv⟩ := hp
 have hlt := h.two.lt
 refine ⟨v', hM, hg, h.two.to hF (fun e => h.off _ e rfl), fun i hi => ?_, h.kept.far hF (fun k hk => Nat.le_trans hb (h.tree.qfW k hk))⟩
 rcases hi with rfl | hi
 ·exact h.off _ (.inl rfl)
 ·rcases hv with e | e
  ·exact h.off i (.inr (e ▸ hi))
  ·have := e i hi; omega
set_option maxRecDepth 100000 in
set_option maxHeartbeats 6400000 in
theorem qlI {w : World} {s : SqD} {u : RuD} {A : Option Addr} {c : Nat} {l : List qdn} (hs : s.ok) (hu : u.ok) (hl : ∀ x ∈ l, x.ok) (hr : Row w A (qcm l)) (hc : l.length ≤ c) (hcm : c ≤ maxLen) :
  Calls prog 8 #[.agg #[.bool s.left.neg, .string s.left.n, .int .i64 s.left.e, .bool s.low.neg, .string s.low.n, .int .i64 s.low.e, .int .i64 s.e], .agg (ruL u).toArray, .slice A l.length c] w (qcT l.length w) := by
 have NW := qh (fun W => qnw (w := W) s hs hu)
 have HR := qh hr
 have HL := qh hl
 have q1 := hs.left.1
 have q2 := hs.low.1
 have q3 := hu.re.1
 have q4 := hu.im.1
 have q5 := hu.r.1
 have hml : maxLen = 9223372036854775807 := rfl
 obtain ⟨N, hN⟩ : ∃ N, N = l.length := ⟨_, rfl⟩
 have HN := qh hN
 rw [← hN] at hc ⊢
 obtain ⟨⟨a0, a1, a2⟩, ⟨a3, a4, a5⟩, a6⟩ := s
 have HU := qh hu
 have DN := qh (fun W base p v L D (hM : RfM W base p v u L) (hS : qbm L) => qlH (D := D) (most := 300) hM hS hu)
 have PT := qh (fun W base p v L (g : GsD) (hM : RfM W base p v u L) (hS : qbm L) h1 h2 => qln g hM hS hu h1 h2)
 obtain ⟨U, hU⟩ : ∃ U, U = u := ⟨_, rfl⟩
 rw [← hU] at NW DN PT
 have HUU := qh hU
 obtain ⟨uk, ⟨⟨u0, u1, u2⟩, ⟨u3, u4, u5⟩⟩, ⟨u6, u7, u8⟩, ux, uy⟩ := u
 simp only at q1 q2 q3 q4 q5 NW ⊢
 obtain ⟨t1, ew1⟩ : ∃ t, IntKind.i64.wrap ((a1.size : Int) + (a4.size : Int)) = t := ⟨_, rfl⟩
 obtain ⟨t2, ew2⟩ : ∃ t, IntKind.i64.wrap (t1 + (u1.size : Int)) = t := ⟨_, rfl⟩
 obtain ⟨t3, ew3⟩ : ∃ t, IntKind.i64.wrap (t2 + (u4.size : Int)) = t := ⟨_, rfl⟩
 obtain ⟨t4, ew4⟩ : ∃ t, IntKind.i64.wrap (t3 + (u7.size : Int)) = t := ⟨_, rfl⟩
 clear hs hu hl hr q1 q2 q3 q4 q5 hml hN hU
 by_cases h60 : 60 < N
 ·have h60I : (60 : Int) < (N : Int) := by omega
  go_enter func8, ntmps8
  go_upto_region 1 with fail
  obtain ⟨b, w1, hw, hb, B0, B1, K1, HB⟩ := qa7 w (LC3 a0 a1 a2 a3 a4 a5 a6) 26 [.int .i64 uk, .bool u0, .string u1, .int .i64 u2, .bool u3, .string u4, .int .i64 u5, .bool u6, .string u7, .int .i64 u8, .float .f64 ux, .float .f64 uy] 31
  rw [← hw, ← hb]; clear hw hb
  go_wp2_with fail
  exact bodyPost_ret (v := .bool true) (by simp [results, results8, go_sem]) rfl (qcT.of _ (fun h => by cases h) K1.out)
 have h60I : ¬ (60 : Int) < (N : Int) := by omega
 have H60 := qh (show N ≤ 60 by omega)
 clear h60
 by_cases h64 : (64 : Int) < t4
 ·go_enter func8, ntmps8
  go_upto_region 1 with fail
  obtain ⟨b, w1, hw, hb, B0, B1, K1, HB⟩ := qa7 w (LC3 a0 a1 a2 a3 a4 a5 a6) 26 [.int .i64 uk, .bool u0, .string u1, .int .i64 u2, .bool u3, .string u4, .int .i64 u5, .bool u6, .string u7, .int .i64 u8, .float .f64 ux, .float .f64 uy] 31
  rw [← hw, ← hb]; clear hw hb
  obtain ⟨c0, c1, c2, c3, c4, c5, c6⟩ := B0.out.c7
  have d2 := B1.out.c 2 rfl
  have d5 := B1.out.c 5 rfl
  have d8 := B1.out.c 8 rfl
  go_wp2_with fail
  exact bodyPost_ret (v := .bool true) (by simp [results, results8, go_sem]) rfl (qcT.of _ (fun h => by cases h) K1.out)
 go_enter func8, ntmps8
 go_upto_region 1 with fail
 obtain ⟨b, w1, hw, hb, B0, B1, K1, HB⟩ := qa7 w (LC3 a0 a1 a2 a3 a4 a5 a6) 26 [.int .i64 uk, .bool u0, .string u1, .int .i64 u2, .bool u3, .string u4, .int .i64 u5, .bool u6, .string u7, .int .i64 u8, .float .f64 ux, .float .f64 uy] 31
 rw [← hw, ← hb]; clear hw hb
 obtain ⟨c0, c1, c2, c3, c4, c5, c6⟩ := B0.out.c7
 have d2 := B1.out.c 2 rfl
 have d5 := B1.out.c 5 rfl
 have d8 := B1.out.c 8 rfl
 go_upto_region 3 with fail
 clear d2 d5 d8 ew1 ew2 ew3 ew4 c0 c1 c2 c3 c4 c5 c6
 refine wp_region_list ?_
 refine wpList_plain rfl fun K hK => qai (vs := (LC3 a0 a1 a2 a3 a4 a5 a6)) (b := b) (n := 7) _ rfl rfl B0.out rfl underlying26 rfl (by kernel_rfl) (hK _ _ ?_)
 clear hK K
 refine wpList_plain rfl fun K hK => qai (vs := [.int .i64 uk, .bool u0, .string u1, .int .i64 u2, .bool u3, .string u4, .int .i64 u5, .bool u6, .string u7, .int .i64 u8, .float .f64 ux, .float .f64 uy]) (b := b + 1) (n := 12) _ rfl rfl B1.out rfl underlying31 rfl (by kernel_rfl) (hK _ _ ?_)
 clear hK K
 refine wpList_plain rfl fun K hK => ?_
 go_step
 have hnw := NW.out w1
 rw [show (ruL U).toArray = #[.int .i64 uk, .bool u0, .string u1, .int .i64 u2, .bool u3, .string u4, .int .i64 u5, .bool u6, .string u7, .int .i64 u8, .float .f64 ux, .float .f64 uy] by rw [HUU.out]] at hnw
 refine hnw.mono ?_
 rintro en w3 ⟨hk3, hn⟩
 have K3 := qh (K1.out.trans' hk3)
 clear NW hnw
 by_cases hcond : sqB ⟨⟨a0, a1, a2⟩, ⟨a3, a4, a5⟩, a6⟩ = true ∧ (qaj ⟨⟨a0, a1, a2⟩, ⟨a3, a4, a5⟩, a6⟩).2 = 0
 ·rw [if_pos hcond] at hn
  obtain ⟨p, v, L, rfl, hM, hG⟩ := hn
  have HM := qh hM
  have HG := qh hG
  have HBA := qh (show w.heap.size ≤ w1.heap.size from K1.out.size)
  obtain ⟨base, hbase⟩ : ∃ base, base = w1.heap.size := ⟨_, rfl⟩
  rw [← hbase] at HM HBA
  clear hcond hM hG hbase hk3
  refine hK _ _ ?_
  clear hK K
  refine wpList_plain rfl fun K hK => ?_
  go_step
  refine hK _ _ ?_
  clear hK K
  refine wpList_plain rfl fun K hK => ?_
  go_step
  refine hK _ _ ?_
  clear hK K
  refine wpList_plain rfl fun K hK => ?_
  go_step
  refine hK _ _ ?_
  clear hK K
  refine wpList_plain rfl fun K hK => ?_
  go_step
  refine hK _ _ ?_
  clear hK K
  refine wpList_plain rfl fun K hK => ?_
  go_step
  refine hK _ _ ?_
  clear hK K
  go_upto_region 6 with fail
  refine wp_region_list ?_
  refine wpList_plain rfl fun K hK => ?_
  go_step
  refine hK _ _ ?_
  clear hK K
  refine wpList_plain rfl fun K hK => ?_
  go_step
  refine hK _ _ ?_
  clear hK K
  refine wpList_plain rfl fun K hK => ?_
  go_step
  refine hK _ _ ?_
  clear hK K
  have KT := Kept.new (Below.refl _ w3) (.cells #[.pointer none, .pointer none] 71)
  have K4 := qh (K3.out.trans' KT)
  have BT := qh (Bx.new w3 [.pointer none, .pointer none] 71 w3.heap.size rfl)
  have HM4 := qh (HM.out.kept KT)
  have HOF := qh (fun i hi => HM.out.cellsB i hi)
  obtain ⟨tb, htb⟩ : ∃ tb, tb = w3.heap.size := ⟨_, rfl⟩
  have HTB := qh (show w.heap.size ≤ tb by have := K3.out.size; omega)
  rw [← htb] at BT HOF ⊢
  clear htb KT HM K3
  generalize World.alloc w3 _ = w4 at *
  refine wpList_plain rfl fun K hK => qaa (vs := [.pointer (some ⟨p, 0, none⟩), .pointer none]) (b := tb) (n := 2) _ _ rfl rfl rfl BT.out rfl rfl (by kernel_rfl) rfl (hK _ _ ?_)
  clear hK K
  have KTR := qh (Kept.row K4.out HTB.out [.pointer (some ⟨p, 0, none⟩), .pointer none])
  have BTR := qh (BT.out.row [.pointer (some ⟨p, 0, none⟩), .pointer none])
  have HMR : Hid (RfM (World.setRow w4 tb #[.pointer (some ⟨p, 0, none⟩), .pointer none]) base p v U L) := qh ⟨HM4.out.box.off (g := tb) (by have := HOF.out p (.inl rfl); omega) [.pointer (some ⟨p, 0, none⟩), .pointer none], HM4.out.own.keep (by simp [World.setRow]) (fun g hg o => by
   have hne : g ≠ tb := by have := HOF.out g (.inr hg); omega
   have e : (World.setRow w4 tb #[.pointer (some ⟨p, 0, none⟩), .pointer none]).heap[g]? = w4.heap[g]? := setRow_other _ _ _ _ hne
   exact ⟨World.cell?_of_block (a := ⟨g, o, none⟩) e, World.frozen?_of_block (a := ⟨g, o, none⟩) e⟩), HM4.out.ge, HM4.out.off⟩
  have HT0 := qh (show qi1 w tb base p U (World.setRow w4 tb #[.pointer (some ⟨p, 0, none⟩), .pointer none]) v L from ⟨HMR.out, HG.out, BTR.out, fun i hi => by have := HOF.out i hi; omega, KTR.out⟩)
  clear KTR BTR HMR BT HM4 K4 HG HOF
  generalize World.setRow w4 tb #[.pointer (some ⟨p, 0, none⟩), .pointer none] = w5 at *
  go_wp2_with fail
  go_loopg [10] N (fun gh v10 wr => ∃ (j : Nat) (vm : Value) (Lm : List NdR), j + gh = N ∧ v10 = .int .i64 (j : Int) ∧ qi1 w tb base p U wr vm Lm)
  case atStart => exact ⟨0, v, L, by omega, rfl, HT0.out⟩
  case round =>
   clear HT0
   obtain ⟨j, vm, Lm, hjg, rfl, ht⟩ := hrel
   have HT := qh ht
   clear ht
   cases gk with
   | zero =>
    obtain rfl : j = N := by omega
    go_wp2_with fail
    exact bodyPost_ret (v := .bool false) (by simp [results, results8, go_sem]) rfl (qcT.of _ (fun _ => H60.out) HT.out.kept)
   | succ gj =>
    obtain ⟨x, hx⟩ : ∃ x, l[j]? = some x := ⟨_, List.getElem?_eq_getElem (by have := HN.out; omega)⟩
    have hjN : (j : Int) < (N : Int) := by omega
    have hj0 : (0 : Int) ≤ (j : Int) := by omega
    have ewj : IntKind.i64.wrap ((j : Int) + 1) = ((j + 1 : Nat) : Int) := by have := H60.out; rw [IntWalk.i64_in _ (by omega)]; omega
    have hxo := HL.out x (List.mem_of_getElem? hx)
    obtain ⟨g, off, rfl, hcs⟩ : ∃ g off, A = some ⟨g, off, none⟩ ∧ ∀ i y, (stV x)[i]? = some y → wr.cell? ⟨g, off + j * 11 + i, none⟩ = some y := by
     rcases (HR.out.kept HT.out.kept) with h | ⟨g, off, e, hx2⟩
     ·have := qbY l; rw [h] at this; have h2 := (List.getElem?_eq_some_iff.1 hx).1; simp at this; omega
     ·exact ⟨g, off, e, fun i y hy => by rw [Nat.add_assoc]; exact hx2 _ _ ((qfv l j x i hx (List.getElem?_eq_some_iff.1 hy).1).trans hy)⟩
    have HCS := qh hcs
    have HXO := qh hxo
    clear hx hcs hxo
    go_upto_region 10 with fail
    refine wp_region_list ?_
    refine wpList_plain rfl fun K hK => ?_
    go_step
    refine hK _ _ ?_
    clear hK K
    refine wpList_plain rfl fun K hK => ?_
    go_step
    refine hK _ _ ?_
    clear hK K
    refine wpList_plain rfl fun K hK => ?_
    go_step
    refine hK _ _ ?_
    clear hK K
    refine wpList_plain rfl fun K hK => qav (vs := stV x) (g := g) (off := off + j * 11) (n := 11) _ rfl rfl HCS.out rfl underlying37 rfl (by kernel_rfl) (hK _ _ ?_)
    clear hK K HCS
    refine wpList_plain rfl fun K hK => ?_
    go_step
    refine hK _ _ ?_
    clear hK K
    have KY := qh (Kept.new (Below.refl _ wr) (.cells ZL5.toArray 37))
    have BY := qh (Bx.new wr ZL5 37 wr.heap.size rfl)
    obtain ⟨y, hy⟩ : ∃ y, y = wr.heap.size := ⟨_, rfl⟩
    have HY := qh (show wr.heap.size ≤ y by omega)
    rw [← hy] at BY ⊢
    clear hy
    generalize World.alloc wr _ = w6 at *
    refine wpList_plain rfl fun K hK => qaa (vs := stV x) (b := y) (n := 11) _ _ rfl rfl rfl BY.out rfl rfl (by kernel_rfl) rfl (hK _ _ ?_)
    clear hK K
    replace BY := qh (BY.out.row (stV x))
    replace KY := qh (Kept.row KY.out HY.out (stV x))
    generalize World.setRow w6 _ _ = w7 at *
    have HT7 := qh (HT.out.keep KY.out)
    have HYO := qh (show ∀ i, TrB p vm i → i < y from fun i hi => by have h1 := HT.out.tree.cellsB i hi; have h2 := HY.out; omega)
    obtain ⟨xd, xa, xb, xn, ⟨⟨r0, r1, r2⟩, ⟨i0, i1, i2⟩⟩, xt⟩ := x
    have hxo := HXO.out
    obtain ⟨ha, hb, hd, hre, him⟩ := hxo
    simp only at ha hb hd
    subst ha; subst hb
    have HRE := qh hre
    have HIM := qh him
    have BY2 : Hid (Bx w7 y [.int .i64 xd, .int .i64 0, .int .i64 0, .int .i64 xn, .bool r0, .string r1, .int .i64 r2, .bool i0, .string i1, .int .i64 i2, .string xt]) := BY
    clear KY BY HY HT HXO hre him
    go_upto_region 11 with fail
    refine wp_region_quiet (C := (KB w7)) (by kernel_rfl) (by kernel_rfl) ?_ ?_
    ·exact ⟨(Below.refl _ w7).drew⟩
    dsimp only [List.take]
    refine wQ (some 71) ?_ fun wr hw => (by (have c1 := (BY2.out.kept hw.k).c 1 rfl; have c2 := (BY2.out.kept hw.k).c 2 rfl); go_simp; (try with_reducible rfl))
    refine wQ (some 72) ?_ fun wr hw => (by (have c1 := (BY2.out.kept hw.k).c 1 rfl; have c2 := (BY2.out.kept hw.k).c 2 rfl); go_simp; (try with_reducible rfl))
    refine wQ (some 73) ?_ fun wr hw => (by (have c1 := (BY2.out.kept hw.k).c 1 rfl; have c2 := (BY2.out.kept hw.k).c 2 rfl); go_simp; (try with_reducible rfl))
    refine wQ (some 74) ?_ fun wr hw => (by (have c1 := (BY2.out.kept hw.k).c 1 rfl; have c2 := (BY2.out.kept hw.k).c 2 rfl); go_simp; (try with_reducible rfl))
    refine wQ (some 75) ?_ fun wr hw => (by (have c1 := (BY2.out.kept hw.k).c 1 rfl; have c2 := (BY2.out.kept hw.k).c 2 rfl); go_simp; (try with_reducible rfl))
    refine wQ (some 76) ?_ fun wr hw => (by (have c1 := (BY2.out.kept hw.k).c 1 rfl; have c2 := (BY2.out.kept hw.k).c 2 rfl); go_simp; (try with_reducible rfl))
    refine wQ (some 12) ?_ fun wr hw => (by (have c1 := (BY2.out.kept hw.k).c 1 rfl; have c2 := (BY2.out.kept hw.k).c 2 rfl); go_simp; (try with_reducible rfl))
    refine wQ (some 13) ?_ fun wr hw => (by (have c1 := (BY2.out.kept hw.k).c 1 rfl; have c2 := (BY2.out.kept hw.k).c 2 rfl); go_simp; (try with_reducible rfl))
    refine wpQuiet_nil ?_
    intro wq hq
    have KQ := qh hq.k
    rw [show bits BinOp.and IntKind.i64 0 1 = 0 from rfl]
    have HT8 := qh (HT7.out.keep KQ.out)
    have BY8 := qh (BY2.out.kept KQ.out)
    clear HT7 BY2 KQ hq
    have tc0 := HT8.out.two.c 0 rfl
    have yc0 := BY8.out.c 0 rfl
    have yc3 := BY8.out.c 3 rfl
    rcases hd with rfl | rfl
    ·go_upto_region 29 with fail
     have hdn := DN.out wq base p vm Lm xn HT8.out.tree HT8.out.good
     refine wp_region_list ?_
     refine wpList_plain rfl fun K hK => ?_
     go_step
     refine hK _ _ ?_
     clear hK K
     refine wpList_plain rfl fun K hK => ?_
     go_step
     refine hK _ _ ?_
     clear hK K
     refine wpList_plain rfl fun K hK => ?_
     go_step
     refine hK _ _ ?_
     clear hK K
     refine wpList_plain rfl fun K hK => ?_
     go_step
     refine hdn.mono ?_
     clear hdn
     rintro en w9 ⟨dn, de, db, L9, rfl, hle, hp⟩
     obtain ⟨v9, ht9⟩ := HT8.out.post HBA.out hp
     have HT9 := qh ht9
     clear hp ht9 HT8 BY8 hle
     refine hK _ _ ?_
     clear hK K
     refine wpList_plain rfl fun K hK => ?_
     go_step
     refine hK _ _ ?_
     clear hK K
     refine wpList_plain rfl fun K hK => ?_
     go_step
     refine hK _ _ ?_
     clear hK K
     refine wpList_plain rfl fun K hK => ?_
     go_step
     refine hK _ _ ?_
     clear hK K
     refine wpList_plain rfl fun K hK => ?_
     go_step
     refine hK _ _ ?_
     clear hK K
     refine wpList_plain rfl fun K hK => ?_
     go_step
     refine hK _ _ ?_
     clear hK K
     refine wpList_plain rfl fun K hK => ?_
     go_step
     refine hK _ _ ?_
     clear hK K
     refine wpList_plain rfl fun K hK => ?_
     go_step
     refine hK _ _ ?_
     clear hK K
     cases db with
     | true =>
      go_wp2_with fail
      exact bodyPost_ret (v := .bool true) (by simp [results, results8, go_sem]) rfl (qcT.of _ (fun h => by cases h) HT9.out.kept)
     | false =>
      obtain ⟨g9, o9, c9, rfl, -⟩ := HT9.out.tree.form HT9.out.good.pos
      have pc := HT9.out.tree.box.c 12 rfl
      obtain ⟨n9, h9⟩ : ∃ n9, n9 = L9.length := ⟨_, rfl⟩
      rw [← h9] at pc HT9
      by_cases h600 : (600 : Int) < (n9 : Int)
      ·go_wp2_with fail
       exact bodyPost_ret (v := .bool true) (by simp [results, results8, go_sem]) rfl (qcT.of _ (fun h => by cases h) HT9.out.kept)
      ·go_wp2_with fail
       go_roundg gj
       case measure => omega
       case rel => exact ⟨j + 1, _, L9, by omega, rfl, HT9.out⟩
    ·go_upto_region 33 with fail
     have hpt := PT.out wq base p vm Lm ⟨⟨r0, r1, r2⟩, ⟨i0, i1, i2⟩⟩ HT8.out.tree HT8.out.good HRE.out HIM.out
     refine wp_region_list ?_
     refine wpList_plain rfl fun K hK => ?_
     go_step
     refine hK _ _ ?_
     clear hK K
     refine wpList_plain rfl fun K hK => ?_
     go_step
     refine hK _ _ ?_
     clear hK K
     refine wpList_plain rfl fun K hK => qav (vs := (LC1 r0 r1 r2 i0 i1 i2)) (g := y) (off := 4) (n := 6) _ rfl rfl (Bx.at_ BY8.out 4 6) rfl underlying28 rfl (by kernel_rfl) (hK _ _ ?_)
     clear hK K
     refine wpList_plain rfl fun K hK => ?_
     go_step
     refine hpt.mono ?_
     clear hpt
     rintro en w9 ⟨db, de, L9, rfl, hle, hp⟩
     obtain ⟨v9, ht9⟩ := HT8.out.post HBA.out hp
     have HT9 := qh ht9
     clear hp ht9 HT8 BY8 hle
     refine hK _ _ ?_
     clear hK K
     obtain ⟨g9, o9, c9, rfl, -⟩ := HT9.out.tree.form HT9.out.good.pos
     have pc := HT9.out.tree.box.c 12 rfl
     obtain ⟨n9, h9⟩ : ∃ n9, n9 = L9.length := ⟨_, rfl⟩
     rw [← h9] at pc HT9
     by_cases h600 : (600 : Int) < (n9 : Int)
     ·go_wp2_with fail
      exact bodyPost_ret (v := .bool true) (by simp [results, results8, go_sem]) rfl (qcT.of _ (fun h => by cases h) HT9.out.kept)
     ·go_wp2_with fail
      go_roundg gj
      case measure => omega
      case rel => exact ⟨j + 1, _, L9, by omega, rfl, HT9.out⟩
 ·rw [if_neg hcond] at hn
  have hne := qny hcond
  obtain ⟨ce, hce⟩ : ∃ ce, ce = (qgm ⟨⟨a0, a1, a2⟩, ⟨a3, a4, a5⟩, a6⟩).2 := ⟨_, rfl⟩
  rw [← hce] at hn hne
  subst hn
  have hneb : (ce != 0) = true := by simpa using hne
  clear hcond hce hk3
  refine hK _ _ ?_
  clear hK K
  refine wpList_plain rfl fun K hK => ?_
  go_step
  refine hK _ _ ?_
  clear hK K
  refine wpList_plain rfl fun K hK => ?_
  go_step
  refine hK _ _ ?_
  clear hK K
  refine wpList_plain rfl fun K hK => ?_
  go_step
  refine hK _ _ ?_
  clear hK K
  refine wpList_plain rfl fun K hK => ?_
  go_step
  refine hK _ _ ?_
  clear hK K
  refine wpList_plain rfl fun K hK => ?_
  go_step
  refine hK _ _ ?_
  clear hK K
  go_wp2_with fail
  exact bodyPost_ret (v := .bool false) (by simp [results, results8, go_sem]) rfl (qcT.of _ (fun _ => H60.out) K3.out)
end
theorem TrM.qfW {W : World} {base p : Nat} {v : Value} {u : RuD} {S : StD} (h : TrM W base p v u S) : ∀ k, TrB p v k → base ≤ k := by
 rintro k (rfl | hk)
 ·exact h.ge
 ·exact (h.own.lt k hk).1
def awU : RuD := ⟨1, ⟨⟨false, ⟨#[]⟩, 0⟩, ⟨false, ⟨#[]⟩, 0⟩⟩, ⟨false, ⟨#[]⟩, 0⟩, 4607182418800017408, 4602678819172646912⟩
def awQ : SqD := ⟨⟨false, ⟨#[]⟩, 0⟩, ⟨false, ⟨#[]⟩, 0⟩, 1⟩
theorem qnE : awU.ok := ⟨by decide, by decide, ⟨by decide, by decide, by decide⟩, ⟨by decide, by decide, by decide⟩, ⟨by decide, by decide, by decide⟩, by decide, by decide⟩
theorem qoO : awQ.ok := ⟨⟨by decide, by decide, by decide⟩, ⟨by decide, by decide, by decide⟩, by decide, by decide⟩
theorem qgB : sqB awQ = true ∧ (qaj awQ).2 = 0 := ⟨by decide +kernel, by decide +kernel⟩
theorem qor : (stepD (qaD awU) (qdB awU awQ)).2 = 1 := by decide +kernel
theorem qnk : bytesD (stepD (qaD awU) (qdB awU awQ)).1 = [112, 117, 111, 117, 111] := by decide +kernel
set_option maxRecDepth 100000 in
set_option maxHeartbeats 3200000 in
theorem qlF {w : World} (hT : T32 w) (hg : 1 < w.heap.size) :
  Calls prog 6 #[] w fun en w' => en = .returned (.bool true) ∧ Kept w w' := by
 have NW : Hid (Calls prog 9 #[.agg #[.bool false, .string ⟨#[]⟩, .int .i64 0, .bool false, .string ⟨#[]⟩, .int .i64 0, .int .i64 1], .iface 31 (.agg #[.int .i64 1, .bool false, .string ⟨#[]⟩, .int .i64 0, .bool false, .string ⟨#[]⟩, .int .i64 0, .bool false, .string ⟨#[]⟩, .int .i64 0, .float .f64 4607182418800017408, .float .f64 4602678819172646912])] w (qiv w awU awQ)) := qh (new_any awQ qoO qnE hT)
 have HT := qh hT
 have HG := qh hg
 clear hT hg
 go_enter func6, ntmps6
 go_upto_region 4 with (go_at_call 9; (with_reducible refine NW.out.mono ?_); rintro e w3 ⟨hk3, hn⟩; rw [if_pos qgB] at hn; obtain ⟨p, v, rfl, hM⟩ := hn; have HT3 := qh (HT.out.kept hk3); have HM := qh hM; have K3 := qh hk3; clear hM hk3)
 have hst := qiB HM.out (qec qgB.1) (qdN _ _) HT3.out qnE HG.out
 rw [qor] at hst
 have HSG := qh (qeb (u := awU) (qec (u := awU) qgB.1))
 have HSW := qh (qcr (t := qaD awU) (qdN awU awQ))
 have HAB := qh qnk
 generalize (stepD (qaD awU) (qdB awU awQ)).1 = S1 at *
 have HST := qh hst
 clear hst
 go_upto_region 5 with (go_at_call 24; (with_reducible refine HST.out.mono ?_); rintro e w4 ⟨rfl, hp⟩; obtain ⟨v4, hM4, hF4, -⟩ := hp; have HM4 := qh hM4; have K4 := qh (K3.out.far hF4 HM.out.qfW); clear hM4 hF4)
 have hb := qgL HM4.out HSG.out HSW.out
 rw [HAB.out] at hb
 have HBY := qh hb
 clear hb
 go_wp2_with (go_at_call 13; (with_reducible refine HBY.out.mono ?_); rintro e w5 ⟨rfl, hk5⟩; have K5 := qh (K4.out.trans' hk5); clear hk5)
 exact bodyPost_ret (v := .bool true) (by simp [results, results6, go_sem]) rfl ⟨rfl, K5.out⟩
theorem qgl (t : SqD → Nat) : ∀ l S, (qbj t l S).2 = 0 → (qbj t l S).1 = S
 | [], S, _ => rfl
 | k :: l, S, h => by
  simp only [qbj] at h ⊢
  by_cases hb : (qaH t S k).2 = true
  ·rw [if_pos hb] at h; omega
  ·rw [if_neg hb, Nat.zero_add] at h
   have e : (qaH t S k).1 = S := by
    unfold qaH at hb ⊢
    cases hs : qal S k with
    | none => rfl
    | some x => obtain ⟨n, q⟩ := x; rw [hs] at hb; exact absurd rfl hb
   rw [qgl t l _ h, e]
theorem Whole.qeV {S : StD} (h : Whole S) : S.L.length ≤ 87381 := by have h1 := h.count; have h2 := h.few; omega
theorem qgC {t : SqD → Nat} {d : Nat} : ∀ f f' {S : StD}, Whole S → 87385 ≤ S.L.length + 4 * f → 87385 ≤ S.L.length + 4 * f' → qaW t d f S = qaW t d f' S
 | 0, _, S, hW, h, _ => by have := hW.qeV; omega
 | _ + 1, 0, S, hW, _, h => by have := hW.qeV; omega
 | f + 1, f' + 1, S, hW, h, h' => by
  unfold qaW
  by_cases h1 : qku S.L < d
  ·rw [if_pos h1, if_pos h1]
   by_cases h2 : (stepD t S).2 = 0
   ·rw [if_pos h2, if_pos h2]
   ·have h3 := qeL t S
    rw [if_neg h2, if_neg h2, qgC f f' (qcr hW) (by omega) (by omega)]
  ·rw [if_neg h1, if_neg h1]
theorem qhV {t : SqD → Nat} {a b : Nat} (hab : a ≤ b) : ∀ f {S : StD}, Whole S → 87385 ≤ S.L.length + 4 * f → (qaW t b f (qaW t a f S).1).1 = (qaW t b f S).1 ∧ (qaW t a f S).2 + (qaW t b f (qaW t a f S).1).2 = (qaW t b f S).2
 | 0, S, hW, h => by have := hW.qeV; omega
 | f + 1, S, hW, h => by
  by_cases h1 : qku S.L < a
  ·by_cases h2 : (stepD t S).2 = 0
   ·have e : (stepD t S).1 = S := qgl t _ S h2
    have ea : qaW t a (f + 1) S = (S, 0) := by rw [qaW, if_pos h1, if_pos h2, e]
    rw [ea]; exact ⟨rfl, Nat.zero_add _⟩
   ·have h3 := qeL t S
    have hW' := qcr (t := t) hW
    have hf : 87385 ≤ (stepD t S).1.L.length + 4 * f := by omega
    have ea : qaW t a (f + 1) S = ((qaW t a f (stepD t S).1).1, (stepD t S).2 + (qaW t a f (stepD t S).1).2) := by rw [qaW, if_pos h1, if_neg h2]
    have eb : qaW t b (f + 1) S = ((qaW t b f (stepD t S).1).1, (stepD t S).2 + (qaW t b f (stepD t S).1).2) := by rw [qaW, if_pos (Nat.lt_of_lt_of_le h1 hab), if_neg h2]
    have hl := qfU (t := t) (depth := a) f (S := (stepD t S).1)
    have hm : qaW t b (f + 1) (qaW t a f (stepD t S).1).1 = qaW t b f (qaW t a f (stepD t S).1).1 := qgC (f + 1) f (qeC f hW') (by omega) (by omega)
    obtain ⟨i1, i2⟩ := qhV hab f hW' hf
    rw [ea, eb, hm]
    exact ⟨i1, by rw [Nat.add_assoc, i2]⟩
  ·have ea : qaW t a (f + 1) S = (S, 0) := by rw [qaW, if_neg h1]
   rw [ea]; exact ⟨rfl, Nat.zero_add _⟩
theorem qmn {t : SqD → Nat} {a b : Nat} (hab : a ≤ b) {S : StD} (hW : Whole S) : (qbV t b (qbV t a S).1).1 = (qbV t b S).1 ∧ (qbV t a S).2 + (qbV t b (qbV t a S).1).2 = (qbV t b S).2 := qhV hab 21846 hW (by have := hW.some_; omega)
theorem qoc (t : SqD → Nat) (S : StD) (g : GsD) : (qaV t S g).n ≤ S.n + 3 := by
 unfold qaV
 split
 ·unfold qaH
  cases qal S (findD S.L g).1 with
  | none => exact Nat.le_add_right _ _
  | some x => exact Nat.le_refl _
 ·exact Nat.le_add_right _ _
section
def TrO (n : Nat) (W : World) (u : RuD) (p : Nat) (v : Value) (S : StD) : Prop := GoodS S ∧ Whole S ∧ ∃ base, n ≤ base ∧ TrM W base p v u S
def qhw (n : Nat) (W : World) (u : RuD) (p : Nat) (v : Value) (S : StD) (W' : World) : Prop := ∃ v', TrO n W' u p v' S ∧ Far (TrB p v) W W' ∧ (v'.ownBlock = v.ownBlock ∨ ∀ i, v'.ownBlock = some i → W.heap.size ≤ i)
section
variable {n : Nat} {w0 W W' W1 W2 : World} {u : RuD} {p p1 p2 q : Nat} {v v1 v2 z : Value} {S S1 S2 S' T : StD}
theorem TrO.kept (h : TrO n W u p v S) (hk : Kept W W') : TrO n W' u p v S := by
 obtain ⟨h1, h2, b, h3, h4⟩ := h
 exact ⟨h1, h2, b, h3, h4.kept hk⟩
theorem TrO.good (h : TrO n W u p v S) : GoodS S := h.1
theorem TrO.whole (h : TrO n W u p v S) : Whole S := h.2.1
theorem TrO.ge (h : TrO n W u p v S) : ∀ k, TrB p v k → n ≤ k := by
 obtain ⟨-, -, b, h3, h4⟩ := h
 exact fun k hk => Nat.le_trans h3 (h4.qfW k hk)
theorem TrO.lt (h : TrO n W u p v S) : ∀ k, TrB p v k → k < W.heap.size := by
 obtain ⟨-, -, b, -, h4⟩ := h
 rintro k (rfl | hk)
 ·exact h4.box.lt
 ·exact (h4.own.lt k hk).2
def Dj (p : Nat) (v : Value) (q : Nat) (z : Value) : Prop := ∀ i, TrB p v i → ¬ TrB q z i
theorem Dj.sw (h : Dj p v q z) : Dj q z p v := fun i a b => h i b a
theorem Dj.post {v' : Value} (h : Dj p v q z) (ht : TrO n W u q z T) (hv : v'.ownBlock = v.ownBlock ∨ ∀ i, v'.ownBlock = some i → W.heap.size ≤ i) : Dj p v' q z := by
 intro i a b
 rcases a with rfl | a
 ·exact h _ (.inl rfl) b
 ·rcases hv with e | e
  ·exact h i (.inr (e ▸ a)) b
  ·have h1 := e i a; have h2 := ht.lt i b; omega
theorem TrO.to (h : TrO n W u p v S) (hf : Far (TrB q z) W W') (hd : Dj q z p v) : TrO n W' u p v S := by
 obtain ⟨h1, h2, b, h3, h4⟩ := h
 exact ⟨h1, h2, b, h3, h4.to hf fun i a b => hd i b a⟩
structure Two (n : Nat) (w0 W : World) (u : RuD) (p : Nat) (v : Value) (S : StD) (p1 : Nat) (v1 : Value) (S1 : StD) (p2 : Nat) (v2 : Value) (S2 : StD) : Prop where
 t : TrO n W u p v S
 o : TrO n W u p1 v1 S1
 z : TrO n W u p2 v2 S2
 dt : Dj p1 v1 p v
 du : Dj p2 v2 p v
 d : Dj p1 v1 p2 v2
 kept : Kept w0 W
 le : w0.heap.size ≤ n
theorem Two.sw (h : Two n w0 W u p v S p1 v1 S1 p2 v2 S2) : Two n w0 W u p v S p2 v2 S2 p1 v1 S1 := ⟨h.t, h.z, h.o, h.du, h.dt, h.d.sw, h.kept, h.le⟩
theorem Two.post (h : Two n w0 W u p v S p1 v1 S1 p2 v2 S2) (hp : qhw n W u p1 v1 S' W') : ∃ v', Two n w0 W' u p v S p1 v' S' p2 v2 S2 := by
 obtain ⟨v', ho, hf, hv⟩ := hp
 exact ⟨v', h.t.to hf h.dt, ho, h.z.to hf h.d, h.dt.post h.t hv, h.du, h.d.post h.z hv, h.kept.far hf fun k hk => Nat.le_trans h.le (h.o.ge k hk), h.le⟩
theorem Two.qnO (h : Two n w0 W u p v S p1 v1 S1 p2 v2 S2) (hp : qhw n W u p2 v2 S' W') : ∃ v', Two n w0 W' u p v S p1 v1 S1 p2 v' S' := by
 obtain ⟨v', h1⟩ := h.sw.post hp
 exact ⟨v', h1.sw⟩
theorem Two.new (h : TrO n W u p v S) (hk : Kept w0 W) (hn : w0.heap.size ≤ n) (h1 : TrM W1 W.heap.size p1 v1 u S1) (g1 : GoodS S1) (e1 : Whole S1) (k1 : Kept W W1) (h2 : TrM W2 W1.heap.size p2 v2 u S2) (g2 : GoodS S2) (e2 : Whole S2) (k2 : Kept W1 W2) (hnW : n ≤ W.heap.size) : Two n w0 W2 u p v S p1 v1 S1 p2 v2 S2 := by
 have l1 : ∀ i, TrB p1 v1 i → W.heap.size ≤ i ∧ i < W1.heap.size := fun i hi => by
  refine ⟨h1.qfW i hi, ?_⟩
  rcases hi with rfl | hi
  ·exact h1.box.lt
  ·exact (h1.own.lt i hi).2
 have l2 : ∀ i, TrB p2 v2 i → W1.heap.size ≤ i := h2.qfW
 exact ⟨(h.kept k1).kept k2, ⟨g1, e1, _, hnW, h1.kept k2⟩, ⟨g2, e2, _, Nat.le_trans hnW k1.size, h2⟩, fun i a b => by have x1 := l1 i a; have x2 := h.lt i b; omega, fun i a b => by have x1 := l2 i a; have x2 := h.lt i b; have x3 := k1.size; omega, fun i a b => by have x1 := l1 i a; have x2 := l2 i b; omega, (hk.trans' k1).trans' k2, hn⟩
theorem qhw.of {base : Nat} {v : Value} (hb : n ≤ base) (h : qcw W base p v u S' W') (hg : GoodS S') (hw : Whole S') : qhw n W u p v S' W' := by
 obtain ⟨v', h1, h2, h3⟩ := h
 exact ⟨v', ⟨hg, hw, base, hb, h1⟩, h2, h3⟩
theorem qj9 (g : GsD) (h : GoodS S) : GoodS (qaV (qaD u) S g) := by
 unfold qaV
 split
 ·exact qes [(findD S.L g).1] h
 ·exact h
theorem qjj (t : SqD → Nat) {G H : GsD} {x z : SqD} (hS : Whole S) (h1 : (findD S.L G).2 = 0) (h2 : (findD S.L H).2 = 0) (hx : ∃ m, S.L[(findD S.L G).1]? = some m ∧ m.sq = x) (hz : ∃ m, S.L[(findD S.L H).1]? = some m ∧ m.sq = z) (hne : x ≠ z) (hn : S.n + 6 ≤ 65536) :
  bytesD (qaV t (qaV t S G) H) = bytesD (qaV t (qaV t S H) G) := by
 obtain ⟨m, hm, rfl⟩ := hx
 obtain ⟨k, hk, rfl⟩ := hz
 obtain ⟨T, t1, t2⟩ := qkG t hS (g := G) (h := H) (x := (findD S.L G).1) (y := (findD S.L H).1) (Prod.ext rfl h1) (Prod.ext rfl h2) (fun e => hne (by rw [e] at hm; rw [Option.some.inj (hm.symm.trans hk)])) hn
 rw [qf8 ((hS.qaV t G).qaV t H) t1, qf8 ((hS.qaV t H).qaV t G) t2]
theorem qjJ (hS : Whole S) (hg : GoodS S) : (⟨(bytesD S).toArray⟩ : ByteArray).toList.isEmpty = false := by
 rw [← decide_eq_emptyBytes]
 refine decide_eq_false fun e => ?_
 have h1 := qkk hS
 have h2 := hg.pos
 have h3 : (bytesD S).toArray = #[] := congrArg ByteArray.data e
 have h4 : bytesD S = [] := by simpa using h3
 rw [h4] at h1
 simp at h1
 omega
theorem qi3 (g : GsD) (h : TrO n W u p v S) (hT : T32 W) (hu : u.ok) (h1 : g.re.ok) (h2 : g.im.ok) : Calls prog 10 #[.pointer (some ⟨p, 0, none⟩), .agg #[.bool g.re.neg, .string g.re.n, .int .i64 g.re.e, .bool g.im.neg, .string g.im.n, .int .i64 g.im.e]] W fun en W' => ∃ x e, en = .returned (.tuple #[.bool x, .int .i64 e]) ∧ qhw n W u p v (qaV (qaD u) S g) W' := by
 obtain ⟨hg, hw, base, hb, hM⟩ := h
 exact (qld g hM hg hT hu h1 h2).mono fun en W' ⟨e, hp⟩ => ⟨_, _, e, .of hb hp (qj9 g hg) (hw.qaV _ g)⟩
theorem qoC (g : GsD) (h : TrO n W u p v S) (hT : T32 W) (h1 : g.re.ok) (h2 : g.im.ok) : Calls prog 11 #[.pointer (some ⟨p, 0, none⟩), .agg #[.bool g.re.neg, .string g.re.n, .int .i64 g.re.e, .bool g.im.neg, .string g.im.n, .int .i64 g.im.e]] W fun en W' => (∃ (x : SqD) (t : Int), en = .returned (.tuple #[.agg #[.bool x.left.neg, .string x.left.n, .int .i64 x.left.e, .bool x.low.neg, .string x.low.n, .int .i64 x.low.e, .int .i64 x.e], .int .u8 t, .int .i64 (findD S.L g).2]) ∧ ((findD S.L g).2 = 0 → ∃ m, S.L[(findD S.L g).1]? = some m ∧ m.sq = x)) ∧ Kept W W' := by
 obtain ⟨hg, hw, base, hb, hM⟩ := h
 refine (ql2 g hM hg hT h1 h2).mono fun en W' ⟨e, hk⟩ => ⟨?_, hk⟩
 subst e
 unfold qja
 by_cases h0 : (findD S.L g).2 = 0
 ·have hl := qgz h0
  rw [if_pos h0, List.getElem?_eq_getElem hl, h0]
  exact ⟨S.L[(findD S.L g).1].sq, _, rfl, fun _ => ⟨_, rfl, rfl⟩⟩
 ·rw [if_neg h0]
  exact ⟨⟨⟨false, ⟨#[]⟩, 0⟩, ⟨false, ⟨#[]⟩, 0⟩, 0⟩, 0, rfl, fun h => absurd h h0⟩
theorem qik (h : TrO n W u p v S) : Calls prog 13 #[.pointer (some ⟨p, 0, none⟩)] W fun en W' => en = .returned (.string ⟨(bytesD S).toArray⟩) ∧ Kept W W' := by
 obtain ⟨hg, hw, base, hb, hM⟩ := h
 exact qgL hM hg hw
theorem qkX (h : TrO n W u p v S) : Calls prog 12 #[.pointer (some ⟨p, 0, none⟩)] W fun en W' => ∃ p' v', en = .returned (.pointer (some ⟨p', 0, none⟩)) ∧ TrM W' W.heap.size p' v' u S ∧ Kept W W' := by
 obtain ⟨hg, hw, base, hb, hM⟩ := h
 exact qnx hM hg
theorem qns {D : Nat} (h : TrO n W u p v S) (hT : T32 W) (hu : u.ok) (hgl : 1 < n) (hD : D ≤ 40) : Calls prog 14 #[.pointer (some ⟨p, 0, none⟩), .int .i64 (D : Int)] W fun en W' => en = .returned (.tuple #[.int .i64 ((qbV (qaD u) D S).2 : Nat), .int .i64 0]) ∧ qhw n W u p v (qbV (qaD u) D S).1 W' := by
 obtain ⟨hg, hw, base, hb, hM⟩ := h
 exact (qnt hM hg hw hT hu (by omega) hD).mono fun en W' ⟨e, hp⟩ => ⟨e, .of hb hp (qeW _ hg) (qeC _ hw)⟩
end
set_option maxRecDepth 100000 in
theorem qoZ (x z : SqD) (h : x ≠ z) (W : World) : (binOp .neq 26 (.agg #[.bool x.left.neg, .string x.left.n, .int .i64 x.left.e, .bool x.low.neg, .string x.low.n, .int .i64 x.low.e, .int .i64 x.e]) (.agg #[.bool z.left.neg, .string z.left.n, .int .i64 z.left.e, .bool z.low.neg, .string z.low.n, .int .i64 z.low.e, .int .i64 z.e])).run prog W = .ok (.bool true) W := by
 have tl : ∀ {a b : ByteArray}, ¬ a = b → ¬ a.toList = b.toList := fun h e => h (by rw [ByteArray.toList_eq, ByteArray.toList_eq] at e; exact ByteArray.ext (Array.ext' e))
 obtain ⟨⟨a0, a1, a2⟩, ⟨a3, a4, a5⟩, a6⟩ := x
 obtain ⟨⟨b0, b1, b2⟩, ⟨b3, b4, b5⟩, b6⟩ := z
 by_cases h0 : a0 = b0
 ·by_cases h1 : a1 = b1
  ·by_cases h2 : a2 = b2
   ·by_cases h3 : a3 = b3
    ·by_cases h4 : a4 = b4
     ·by_cases h5 : a5 = b5
      ·by_cases h6 : a6 = b6
       ·subst h0 h1 h2 h3 h4 h5 h6; exact absurd rfl h
       ·subst h0 h1 h2 h3 h4 h5; go_simp; (try simp [h6])
      ·subst h0 h1 h2 h3 h4; go_simp; (try simp [h5])
     ·subst h0 h1 h2 h3; go_simp; (try exact fun e => absurd e (tl h4))
    ·subst h0 h1 h2; go_simp; (try simp [h3])
   ·subst h0 h1; go_simp; (try simp [h2])
  ·subst h0; go_simp; (try exact fun e => absurd e (tl h1))
 ·go_simp; (try simp [h0])
end
end Go.Proofs.YtfdnledkcongaaaGreatDoor
