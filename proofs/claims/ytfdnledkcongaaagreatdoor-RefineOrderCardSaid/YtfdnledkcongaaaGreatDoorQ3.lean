/- Texts of one claim laid together: WidN, WidO, WidP, DyW, DoF, DoG, DyA, DyB, DyC. -/
import Derived.Test.YtfdnledkcongaaaGreatDoorQ2
set_option linter.all false
namespace Go.Proofs.YtfdnledkcongaaaGreatDoor
open Go.RowKit Go.Proofs.Tryz
section
set_option maxHeartbeats 1600000
set_option maxRecDepth 100000
def bytesV (l : List UInt8) : List Value := l.map fun b => .int .u8 (b.toNat : Int)
theorem qeP (l : List UInt8) : (bytesV l).length = l.length := by simp [bytesV]
theorem qj0 (l : List UInt8) (k : Nat) (x : UInt8) : bytesV (l.set k x) = (bytesV l).set k (.int .u8 (x.toNat : Int)) := by simp [bytesV, List.map_set]
theorem qhn {B : Nat} (l : List Nat) (hok : ∀ x ∈ l, x < B) (k : Nat) (hk : k ≤ l.length) : qac B (l.take k) = qac B l % B ^ k := by
 have h1 := qcS (B := B) l k hk
 have h2 := qcf (B := B) (l.take k) fun x hx => hok x (List.mem_of_mem_take hx)
 rw [List.length_take, Nat.min_eq_left hk] at h2
 rw [h1, Nat.add_mul_mod_self_left, Nat.mod_eq_of_lt h2]
theorem qox {a b : Nat} (ha : a < 4294967296) (hb : b < 4294967296) : bits BinOp.or IntKind.u64 ((a : Int) * 4294967296) (b : Int) = ((b + 4294967296 * a : Nat) : Int) := by
 have := qgK hb ha
 rw [show bits BinOp.or IntKind.u64 ((a : Int) * 4294967296) (b : Int) = bits BinOp.or IntKind.u64 (b : Int) ((a : Int) * 4294967296) by
  unfold bits; simp only [BitVec.or_comm]]
 rw [this, Nat.mul_comm a]
theorem qhP (p : Nat) (x : Int) (k : Nat) (w : World) (hx : qaq w p x k) (hk : k ≤ 100000000) :
  Calls prog 187 #[.pointer (some ⟨p, 0, none⟩)] w fun e w' => e = .returned (.int .u64 ((x.natAbs % 18446744073709551616 : Nat) : Int)) ∧ ∃ m, w' = w.drewN m := by
 obtain ⟨v, hb, A, c, l, rfl, hlc, hl, hr, hdl⟩ := hx
 obtain ⟨m, hm⟩ : ∃ m, m = min l.length 2 := ⟨_, rfl⟩
 have HF := qh (show qac 4294967296 (l.take m) = x.natAbs % 18446744073709551616 by
  rw [qhn l hdl.ok m (by omega), hdl.val]
  rcases (show m = 2 ∨ (m < 2 ∧ m = l.length) by omega) with h | ⟨h1, h2⟩
  ·rw [h]
  ·have h3 := hdl.lt
   rw [Nat.mod_eq_of_lt (by rw [h2]; exact h3), Nat.mod_eq_of_lt]
   have : (4294967296 : Nat) ^ l.length ≤ 4294967296 ^ 2 := Nat.pow_le_pow_right (by omega) (by omega)
   have e : (4294967296 : Nat) ^ 2 = 18446744073709551616 := by decide
   omega)
 have HD := qh hdl
 have HR := qh hr
 have hmi : (if (l.length : Int) < 2 then (l.length : Int) else 2) = m := by omega
 have hmi2 : min (l.length : Int) 2 = m := by omega
 have HM := qh hm
 have hm2 : m ≤ 2 := by omega
 have hml : m ≤ l.length := by omega
 have c1 := hb.c1
 clear hm hb hdl hr
 go_enter func187, ntmps187
 go_wp2_with fail
 go_loopg [3, 4] m (fun gh v3 v4 wr => v4 = .int .i64 ((gh : Int) - 1) ∧ gh ≤ m ∧ v3 = .int .u64 (qac 4294967296 ((l.take m).drop gh) : Nat) ∧ ∃ m, wr = w.drewN m)
 case atStart => exact ⟨by go_num, Nat.le_refl _, by rw [List.drop_eq_nil_of_le (by rw [List.length_take]; omega)]; rfl, 0, rfl⟩
 case round =>
  obtain ⟨rfl, hgm, rfl, nd, rfl⟩ := hrel
  cases gk with
  | zero =>
   go_wp2_with fail
   go_ret
   exact ⟨qaT (by rw [List.drop_zero, HF.out]), nd, rfl⟩
  | succ gh =>
   obtain ⟨a, ha⟩ : ∃ x, l[gh]? = some x := ⟨_, List.getElem?_eq_getElem (by omega)⟩
   obtain ⟨ba, oa, rfl, ca⟩ := qbI HR.out ha
   have hab := HD.out.ok a (List.mem_of_getElem? ha)
   obtain ⟨t, ht⟩ : ∃ t, t = qac 4294967296 ((l.take m).drop (gh + 1)) := ⟨_, rfl⟩
   have htb : t < 4294967296 := by
    have h1 := qcf (B := 4294967296) ((l.take m).drop (gh + 1)) fun z hz => HD.out.ok z (List.mem_of_mem_take (List.mem_of_mem_drop hz))
    rw [← ht, List.length_drop, List.length_take] at h1
    have h2 : (4294967296 : Nat) ^ (min m l.length - (gh + 1)) ≤ 4294967296 ^ 1 := Nat.pow_le_pow_right (by omega) (by omega)
    omega
   have e3 := qox htb hab
   have HV := qh (show qac 4294967296 ((l.take m).drop gh) = a + 4294967296 * t by
    have hx : (l.take m)[gh]? = some a := by rw [List.getElem?_take_of_lt (by omega)]; exact ha
    have hlt := (List.getElem?_eq_some_iff.1 hx).1
    rw [List.drop_eq_getElem_cons hlt, qac, ← ht]
    congr 1
    rw [List.getElem?_eq_getElem hlt] at hx
    exact Option.some.inj hx)
   rw [← ht]
   have hg1 : ((gh : Int) + 1 - 1) = gh := by omega
   have hg2 : (0 : Int) ≤ gh := by omega
   have hg3 : (gh : Int) < l.length := by omega
   clear ha ht
   go_wp2_with fail
   go_roundg gh
   case measure => omega
   case rel => exact ⟨by go_num, by omega, by rw [HV.out, Int.natCast_add, Int.natCast_mul]; rfl, _, rfl⟩
theorem qiq : (prog.info? 5).map (fun i => (i.zero, i.size, i.bytes)) = some (some (.int .u8 0), 1, 1) := by kernel_rfl
def qdc (n : Nat) : Array Value := (bytesV (List.replicate n 0)).toArray
theorem qig (n : Nat) (hn : n ≤ 1000000000) (W : World) : (Instr.makeSlice 97 (.int .i64 (n : Int)) (.int .i64 (n : Int))).run prog W = .ok (.slice (some ⟨W.heap.size, 0, none⟩) n n) (W.alloc (.cells (qdc n) 5)) := by
 obtain ⟨i, hi, hi0, hi1, hi2⟩ := info_parts qiq
 have h9 := run_make (P := prog) W 97 5 i (.int .u8 0) underlying97 hi hi0 .i64 .i64 (n : Int) (n : Int) (by omega) (Int.le_refl _) (by rw [hi2]; omega) (by omega)
 rw [hi1, Int.toNat_natCast, Nat.mul_one, show (Value.int .u8 0).cells = #[.int .u8 0] from rfl, qhc] at h9
 rw [h9]
 simp [qdc, bytesV]
theorem qir (W : World) (n : Nat) (hn : n ≤ 1000000000) : Own (W.alloc (.cells (qdc n) 5)) W.heap.size 1 (.slice (some ⟨W.heap.size, 0, none⟩) n n) n (bytesV (List.replicate n 0)) :=
 Own.new W _ _ (0, 0) n 1 _ W.heap.size W.heap.size rfl (Nat.le_refl _) (by unfold maxLen; omega) (by simp [qdc, bytesV]) rfl (.inr rfl)
theorem Own.byte {W : World} {base n p c : Nat} {L : List UInt8} (h : Own W base 1 (.slice (some ⟨p, 0, none⟩) n c) n (bytesV L)) {j : Nat} (hj : j < n) (x : Nat) (hx : x < 256) : Own (W.setCell ⟨p, j, none⟩ (.int .u8 (x : Int))) base 1 (.slice (some ⟨p, 0, none⟩) n c) n (bytesV (L.set j (UInt8.ofNat x))) := by
 have := Own.put h (j := j) (by omega) (.int .u8 (x : Int))
 rw [qj0, show ((UInt8.ofNat x).toNat : Int) = x by rw [UInt8.toNat_ofNat', Nat.mod_eq_of_lt hx]]
 simpa using this
theorem qkE (p : Nat) (x : Int) (k : Nat) (w : World) (hx : qaq w p x k) (hk : k ≤ 10000000) :
  Calls prog 169 #[.pointer (some ⟨p, 0, none⟩)] w fun e w' => ∃ A c, e = .returned (.slice A (qay x.natAbs).length c) ∧ (qay x.natAbs).length ≤ c ∧ (qay x.natAbs).length ≤ 4 * k ∧ Row w' A (bytesV (qay x.natAbs)) ∧ Kept w w' := by
 have hx0 := hx
 obtain ⟨v, hb, A, c, l, rfl, hlc, hl, hr, hdl⟩ := hx
 have CS := qh (qhT A c l x.natAbs w (by omega) hr hdl)
 have HD := qh hdl
 have HR := qh hr
 have HB := qh hb
 have c1 := hb.c1
 clear hb hdl hr
 go_enter func169, ntmps169
 go_upto_region 2 with (go_at_call 181; refine CS.out.mono ?_; rintro e w1 ⟨t, rfl, hbl, htl, rfl⟩)
 obtain ⟨n, hn⟩ : ∃ n, n = (qay x.natAbs).length := ⟨_, rfl⟩
 have hnt : n = (t + 7) / 8 := by rw [hn, qaR, qoj hbl]
 have HN := qh (show (qdD 256 x.natAbs).length = n by rw [hn, qaR])
 have hnk : n ≤ 4 * k := by omega
 have hni : ((t : Int) + 7) / 8 = n := by omega
 have HN2 := qh hn
 clear hn hbl hnt
 rw [hni]
 clear hni
 have mk := qig n (by omega)
 go_upto_region 3 with fail
 have HO := qh (qir w1 n (by omega))
 have HK := qh (show Kept w1 (w1.alloc (.cells (qdc n) 5)) from (Below.refl _ _).alloc (Nat.le_refl _) _)
 obtain ⟨g, hg⟩ : ∃ g, g = w1.heap.size := ⟨_, rfl⟩
 rw [← hg] at HO ⊢
 generalize (w1.alloc (.cells (qdc n) 5)) = W1 at *
 clear mk htl CS
 have HG := qh hg
 clear hg
 go_wp2_with fail
 go_loopg [5, 17] n (fun gh v5 v17 wr => ∃ (i : Nat) (L : List UInt8), i + gh = n ∧ v17 = .int .i64 i ∧ L.length = n ∧ (∀ j, j < i → L[n - 1 - j]? = some (UInt8.ofNat (x.natAbs / 256 ^ j % 256))) ∧
   Own wr g 1 (.slice (some ⟨g, 0, none⟩) n n) n (bytesV L) ∧ Kept w1 wr)
 case atStart => exact ⟨0, List.replicate n 0, by omega, rfl, by simp, fun j hj => by omega, HO.out, HK.out⟩
 case round =>
  obtain ⟨i, L, hig, rfl, hL, hv, ho, hk1⟩ := hrel
  cases gk with
  | zero =>
   obtain rfl : n = i := by omega
   have HV := qh hv
   have HOW := qh ho
   have HKR := qh hk1
   clear hv ho hk1
   go_wp2_with fail
   go_ret
   have e : L = qay x.natAbs := qeJ (by rw [hL, HN.out]) (fun i hi => by rw [hL]; exact HV.out i (by omega))
   rw [← HN2.out]
   exact ⟨_, _, rfl, Nat.le_refl _, hnk, by rw [← e]; exact HOW.out.row, HKR.out⟩
  | succ gh =>
   obtain ⟨q, hq⟩ : ∃ q, q = i / 4 := ⟨_, rfl⟩
   obtain ⟨r, hr⟩ : ∃ r, r = i % 4 := ⟨_, rfl⟩
   have hq1 : (i : Int) / 4 = q := by omega
   have hr1 : (i : Int) % 4 = r := by omega
   have hr4 : r < 4 := by omega
   obtain ⟨z, hz⟩ : ∃ z, z = 8 * r := ⟨_, rfl⟩
   have hz1 : (r : Int) * 8 = z := by omega
   have hz9 : z < 32 := by omega
   have hql : q < l.length := by
    have h1 := HN.out
    have h2 := qbH (B := 256) (by omega) x.natAbs (4 * l.length)
    have h3 := HD.out.lt
    rw [show (4294967296 : Nat) = 256 ^ 4 by decide, ← Nat.pow_mul] at h3
    have := h2.2 h3
    omega
   obtain ⟨d, hd⟩ : ∃ d, l[q]? = some d := ⟨_, List.getElem?_eq_getElem hql⟩
   obtain ⟨bd, od, rfl, cd⟩ := qbI (HR.out.kept hk1) hd
   have hdb := HD.out.ok d (List.mem_of_getElem? hd)
   have HE := qh (qhl (i := i) HD.out.ok HD.out.val (by rw [← hq]; exact hd))
   rw [← hr, ← hz] at HE
   have hqi : (q : Int) < l.length := by omega
   have hx1 : (0 : Int) ≤ (n : Int) - 1 - i := by omega
   have hx2 : (n : Int) - 1 - i < n := by omega
   obtain ⟨⟨u0, c0⟩, f0⟩ := ho.free (j := n - 1 - i) (by omega)
   have hx3 : ((n : Int) - 1 - i).toNat = n - 1 - i := by omega
   have c1' := (HB.out.kept hk1).c1
   have hp1 : p < g := by have := HB.out.lt; have := HG.out; omega
   have HV := qh hv
   have HOW := qh ho
   have HKR := qh hk1
   have hin : (i : Int) < n := by omega
   clear hv ho hk1 hd hq hr hz
   go_wp2_with fail
   go_roundg gh
   case measure => omega
   case rel =>
    have e1 : (d : Int) / 2 ^ z % 256 = ((x.natAbs / 256 ^ i % 256 : Nat) : Int) := by rw [← HE.out]; simp
    rw [e1]
    refine ⟨i + 1, L.set (n - 1 - i) (UInt8.ofNat (x.natAbs / 256 ^ i % 256)), by omega, by go_num, by simpa using hL, fun j hj => ?_, HOW.out.byte (by omega) _ (Nat.mod_lt _ (by omega)), HKR.out.setCell (p := ⟨g, n - 1 - i, none⟩) (show w1.heap.size ≤ g by have := HG.out; omega) _⟩
    by_cases hji : j = i
    ·subst hji
     rw [List.getElem?_set_self (by omega)]
    ·rw [List.getElem?_set_ne (by omega)]
     exact HV.out j (by omega)
end
theorem qgA (l : List UInt8) (k : Nat) (x : UInt8) (h : l[k]? = some x) : (bytesV l)[k]? = some (.int .u8 (x.toNat : Int)) := by simp [bytesV, h]
theorem byte_at {W : World} {A : Option Addr} {l : List UInt8} (h : Row W A (bytesV l)) {k : Nat} {x : UInt8} (hx : l[k]? = some x) : ∃ b off, A = some ⟨b, off, none⟩ ∧ W.cell? ⟨b, off + k, none⟩ = some (.int .u8 (x.toNat : Int)) := by
 have hk := (List.getElem?_eq_some_iff.1 hx).1
 obtain ⟨b, off, hA, hc⟩ := h.at_ (k := k) (by rw [qeP]; exact hk)
 refine ⟨b, off, hA, ?_⟩
 rw [hc]
 have := qgA l k x hx
 rw [List.getElem?_eq_getElem (by rw [qeP]; exact hk)] at this
 exact this
set_option maxRecDepth 100000 in
set_option maxHeartbeats 1600000 in
theorem qdU (q : Nat) (b0 : Bool) (u : Value) (A : Option Addr) (c : Nat) (l : List UInt8) (w : World) (hl : l.length ≤ 10000000) (hr : Row w A (bytesV l)) (hq : qaY w q b0 u) (hu : ∀ x : Int, u ≠ .int .u32 x) :
  Calls prog 150 #[.pointer (some ⟨q, 0, none⟩), .slice A l.length c] w fun e w' => e = .returned (.pointer (some ⟨q, 0, none⟩)) ∧ qaq w' q (qdb l : Int) (l.length / 4 + 1) ∧ w.grownBy w' (some q) := by
 have HR := qh hr
 have HQ := qh (And.intro hq hu)
 obtain ⟨n, hn⟩ : ∃ n, n = l.length := ⟨_, rfl⟩
 obtain ⟨m, hm⟩ : ∃ m, m = n / 4 + 1 := ⟨_, rfl⟩
 have hm1 : (n : Int) / 4 + 1 = m := by omega
 rw [← hn] at hl ⊢
 rw [← hm]
 have HN := qh hn
 have HM := qh hm
 have mk := qdz m (by omega)
 clear hr hq hu hn hm
 go_enter func150, ntmps150
 go_upto_region 2 with fail
 have HO := qh (qea w m (by have := HM.out; omega))
 have HK := qh (show Kept w (w.alloc (.cells (qax (List.replicate m 0)).toArray 253)) from (Below.refl _ _).alloc (Nat.le_refl _) _)
 obtain ⟨g, hg⟩ : ∃ g, g = w.heap.size := ⟨_, rfl⟩
 rw [← hg] at HO ⊢
 generalize (w.alloc (.cells (qax (List.replicate m 0)).toArray 253)) = W1 at *
 clear mk
 have HG := qh hg
 clear hg
 go_wp2_with fail
 go_loopg [6, 7, 8, 16] n (fun gh v6 v7 v8 v16 wr => ∃ (i : Nat) (D : List Nat), i + gh = n ∧ v16 = .int .i64 i ∧ D.length = m ∧ (∀ z ∈ D, z < 4294967296) ∧ qac 4294967296 D = 256 ^ (n - i) * qdb (l.take i) ∧
   Own wr g 1 (.slice (some ⟨g, 0, none⟩) m m) m (qax D) ∧ Kept w wr)
 case atStart => exact ⟨0, List.replicate m 0, by omega, rfl, by simp, fun z hz => by rw [List.eq_of_mem_replicate hz]; omega, by rw [qcQ]; rfl, HO.out, HK.out⟩
 case round =>
  obtain ⟨i, D, hig, rfl, hD, hok, hv, ho, hk1⟩ := hrel
  cases gk with
  | zero =>
   obtain rfl : n = i := by omega
   have HF := qh (show qac 4294967296 D = qdb l by rw [hv, Nat.sub_self, Nat.pow_zero, Nat.one_mul, List.take_of_length_le (by have := HN.out; omega)])
   have HV := qh (And.intro hD hok)
   have HOW := qh ho
   have HKR := qh hk1
   clear hv ho hk1 hD hok
   have CUT : Hid (∀ W, Kept wr W → Calls prog 182 #[.slice (some ⟨g, 0, none⟩) m m] W fun e w' => ∃ v, e = .returned v ∧ qbR w' v (qdb l) m ∧ w' = W) := fun W h =>
    qdE (W0 := w) (by rw [← HG.out]; exact HOW.out.kept h) HV.out.1 (by have := HM.out; omega) (Nat.le_refl _) HV.out.2 HF.out
   have LAID : Hid (∀ W v, Kept w W → qbR W v (qdb l) m → Calls prog 152 #[.pointer (some ⟨q, 0, none⟩), .bool false, v] W fun e w' => e = .returned (.pointer (some ⟨q, 0, none⟩)) ∧ qaq w' q (qdb l : Int) m ∧ W.grownBy w' (some q)) := fun W v h hd =>
    qbM q b0 false u v (qdb l : Int) (qdb l) m W (HQ.out.1.kept h) HQ.out.2 hd (by omega) (by rw [Bool.eq_iff_iff]; simp)
   clear HV HOW HF HR HQ HG HM HN HO HK
   go_wp2_with (first
    | (go_at_call 182; (with_reducible refine (CUT.out _ (Below.refl _ _)).mono ?_); rintro e w8 ⟨v8, rfl, hd8, hw8⟩; subst hw8)
    | (go_at_call 152; (with_reducible refine (LAID.out _ _ HKR.out hd8).mono ?_); rintro e w9 ⟨rfl, h9, hg9⟩))
   go_ret
   exact ⟨rfl, h9, qbe HKR.out hg9⟩
  | succ gh =>
   obtain ⟨x, hx⟩ : ∃ x, l[i]? = some x := ⟨_, List.getElem?_eq_getElem (by have := HN.out; omega)⟩
   obtain ⟨bx, ox, rfl, cx⟩ := byte_at (HR.out.kept hk1) hx
   have hxb := x.toNat_lt
   obtain ⟨y, hy⟩ : ∃ y, y = x.toNat := ⟨_, rfl⟩
   rw [← hy] at cx hxb
   obtain ⟨k, hk⟩ : ∃ k, k = n - 1 - i := ⟨_, rfl⟩
   obtain ⟨j, hj⟩ : ∃ j, j = k / 4 := ⟨_, rfl⟩
   obtain ⟨r, hr⟩ : ∃ r, r = k % 4 := ⟨_, rfl⟩
   obtain ⟨z, hz⟩ : ∃ z, z = 8 * r := ⟨_, rfl⟩
   have hk2 : (n : Int) - 1 - i = k := by omega
   have hj1 : (k : Int) / 4 = j := by omega
   have hr1 : (k : Int) % 4 = r := by omega
   have hz1 : (r : Int) * 8 = z := by omega
   have hz9 : z < 32 := by omega
   have hjm : j < m := by have := HM.out; omega
   obtain ⟨d, hd⟩ : ∃ d, D[j]? = some d := ⟨_, List.getElem?_eq_getElem (by omega)⟩
   have hdb := hok d (List.mem_of_getElem? hd)
   rw [show n - i = k + 1 by omega] at hv
   have h1 := qkD (V := qdb (l.take i)) (k := k) hok hv (by rw [← hj]; exact hd) y (by omega)
   rw [← hr, ← hz] at h1
   have HS := qh (qj3 (V := qdb (l.take i)) (k := k) (c := y) hv (by rw [← hj]; exact hd))
   rw [← hr, ← hz, ← hj] at HS
   have e1 : IntKind.u32.wrap ((y : Int) * 2 ^ z) = ((y * 2 ^ z : Nat) : Int) := by
    rw [show (y : Int) * 2 ^ z = ((y * 2 ^ z : Nat) : Int) by simp]
    rw [IntKind.wrap_u32]; omega
   have e2 : bits BinOp.or IntKind.u32 (d : Int) ((y * 2 ^ z : Nat) : Int) = ((d + y * 2 ^ z : Nat) : Int) := by
    rw [u32_or_nat _ _ (by omega) (by omega), h1.1]
   obtain ⟨s, hs⟩ : ∃ s, s = y * 2 ^ z := ⟨_, rfl⟩
   rw [← hs] at e1 e2 h1 HS
   have HE := qh h1.2
   have HV := qh (And.intro hD hok)
   have HOW := qh ho
   have HKR := qh hk1
   have HX := qh hx
   have HY := qh hy
   have HKK := qh hk
   have f0 := (ho.free (j := j) hjm).2
   have cd := ho.qdD hd
   have hji : (j : Int) < m := by omega
   have hin : (i : Int) < n := by omega
   have hxg : bx < w.heap.size := by
    rcases HR.out with h | ⟨b, off, hA, hc⟩
    ·have h2 : l = [] := by simpa [bytesV] using h
     have := HX.out
     rw [h2] at this; cases this
    ·cases hA
     exact lt_of_cell (hc i _ (qgA l i x hx))
   clear hv ho hk1 hd hx hy hk hD hok h1 hj hr hz hs
   go_wp2_with fail
   go_roundg gh
   case measure => omega
   case rel =>
    refine ⟨i + 1, D.set j (d + s), by omega, by go_num, by simpa using HV.out.1, qjK HV.out.2 HE.out, ?_, HOW.out.lay hjm _, HKR.out.setCell (p := ⟨g, j, none⟩) (show w.heap.size ≤ g by have := HG.out; omega) _⟩
    rw [qgE l i x HX.out, ← HY.out, show n - (i + 1) = k by have := HKK.out; omega]
    exact HS.out
section
set_option maxHeartbeats 1600000
set_option maxRecDepth 100000
theorem qaY.qoU (W : World) : qbR W (.slice none 0 0) 0 0 := ⟨none, 0, [], rfl, by simp, by simp, .inl rfl, Dig.nil⟩
theorem qb3 : ∀ (A : Option Addr) (n c : Nat) (x : Int), Value.slice A n c ≠ .int .u32 x := fun _ _ _ _ h => by cases h
theorem qaY.qo8 {W : World} {p : Nat} (h : qaY W p false (.slice none 0 0)) : qaq W p 0 0 := ⟨.slice none 0 0, h, qaY.qoU W⟩
theorem qjG (q : Nat) (b0 : Bool) (u : Value) (x : Nat) (w : World) (hx : x < 18446744073709551616) (hq : qaY w q b0 u) (hu : ∀ x : Int, u ≠ .int .u32 x) :
  Calls prog 184 #[.pointer (some ⟨q, 0, none⟩), .int .u64 (x : Int)] w fun e w' => e = .returned (.pointer (some ⟨q, 0, none⟩)) ∧ qaq w' q (x : Int) 2 ∧ w.grownBy w' (some q) := by
 obtain ⟨lo, hlo⟩ : ∃ lo, lo = x % 4294967296 := ⟨_, rfl⟩
 obtain ⟨hi, hhi⟩ : ∃ hi, hi = x / 4294967296 := ⟨_, rfl⟩
 have e1 : (x : Int) % 4294967296 = lo := by omega
 have e2 : (x : Int) / 4294967296 = hi := by omega
 have e3 : (hi : Int) % 4294967296 = hi := by omega
 have hv := qh (show qac 4294967296 [lo, hi] = x by simp only [qac]; omega)
 have hok := qh (show ∀ z ∈ [lo, hi], z < 4294967296 by
  intro z hz
  simp only [List.mem_cons, List.not_mem_nil, or_false] at hz
  rcases hz with rfl | rfl <;> omega)
 have CUT : Hid (∀ W, Row W (some ⟨w.heap.size, 0, none⟩) (qax [lo, hi]) → Calls prog 182 #[.slice (some ⟨w.heap.size, 0, none⟩) 2 2] W fun e w' => ∃ v, e = .returned v ∧ qbR w' v x 2 ∧ w' = W) := fun W hr => by
  refine (qjf (some ⟨w.heap.size, 0, none⟩) 2 [lo, hi] W (by simp) (by simp) hr hok.out).mono ?_
  rintro e w' ⟨m, rfl, hm, hd, rfl⟩
  rw [hv.out] at hd
  have hm2 : m ≤ 2 := by simpa using hm
  exact ⟨_, rfl, ⟨_, 2, [lo, hi].take m, by rw [List.length_take, Nat.min_eq_left hm], by rw [List.length_take]; omega, by rw [List.length_take]; omega, by rw [qhD]; exact hr.take m, hd⟩, rfl⟩
 have LAID : Hid (∀ W v, Kept w W → qbR W v x 2 → Calls prog 152 #[.pointer (some ⟨q, 0, none⟩), .bool false, v] W fun e w' => e = .returned (.pointer (some ⟨q, 0, none⟩)) ∧ qaq w' q (x : Int) 2 ∧ W.grownBy w' (some q)) := fun W v h hd =>
  qbM q b0 false u v (x : Int) x 2 W (hq.kept h) hu hd (by omega) (by rw [Bool.eq_iff_iff]; simp)
 clear hlo hhi hv hok hq hu
 go_enter func184, ntmps184
 go_wp2_with (first
  | (go_at_call 182; (with_reducible refine (CUT.out _ ?_).mono ?_); (exact Row.new _ _ _ _ _ rfl); rintro e w8 ⟨v8, rfl, hd8, hw8⟩; subst hw8)
  | (go_at_call 152; (with_reducible refine (LAID.out _ _ ?_ hd8).mono ?_); (exact (Below.refl _ _).alloc (Nat.le_refl _) _); rintro e w9 ⟨rfl, h9, hg9⟩))
 go_ret
 exact ⟨rfl, h9, qbe ((Below.refl _ _).alloc (Nat.le_refl _) _) hg9⟩
theorem qaB {w V W' : World} {p : Nat} (h : Kept w V) (hp : w.heap.size ≤ p) (hg : V.grownBy W' (some p)) : Kept w W' :=
 ⟨hg.os.trans h.os, hg.tape.trans h.tape, hg.output.trans h.output, Nat.le_trans h.size hg.size, fun k hk => (hg.block k (Nat.lt_of_lt_of_le hk h.size) (by intro e; cases e; exact absurd hk (by omega))).trans (h.block k hk)⟩
theorem qaq.box {W : World} {p : Nat} {z : Int} {k : Nat} (h : qaq W p z k) : ∃ b u, qaY W p b u ∧ ∀ x : Int, u ≠ .int .u32 x := by
 obtain ⟨v, h1, h2⟩ := h
 exact ⟨_, v, h1, h2.slice⟩
theorem qaY.neg {W : World} {p : Nat} {b : Bool} {v : Value} (h : qaY W p b v) (b' : Bool) : qaY (W.setCell ⟨p, 0, none⟩ (.bool b')) p b' v := by
 have hlt := h.lt
 unfold qaY at h ⊢
 simp [World.setCell, Array.getElem?_modify, h]
theorem qeE (W : World) (p : Nat) (x : Value) : W.grownBy (W.setCell ⟨p, 0, none⟩ x) (some p) := by
 have h1 := qcA W p 0 [x]
 simpa [World.setCells] using h1
theorem qaq.sign {W : World} {p : Nat} {z : Int} {k : Nat} (h : qaq W p z k) (hz : 0 < z) : qaq (W.setCell ⟨p, 0, none⟩ (.bool true)) p (-z) k := by
 obtain ⟨v, h1, h2⟩ := h
 refine ⟨v, by rw [decide_eq_true (show -z < 0 by omega)]; exact h1.neg true, ?_⟩
 rw [Int.natAbs_neg]
 exact h2.grown h1 h2.slice (qeE W p _)
theorem qjE (x : Int) (w : World) (h0 : -9223372036854775808 ≤ x) (h1 : x ≤ 9223372036854775807) :
  Calls prog 165 #[.int .i64 x] w fun e w' => ∃ p, e = .returned (.pointer (some ⟨p, 0, none⟩)) ∧ w.heap.size ≤ p ∧ qaq w' p x 2 ∧ Kept w w' := by
 have SET : Hid (∀ W (p : Nat) (y : Nat), (∃ b u, qaY W p b u ∧ ∀ x : Int, u ≠ .int .u32 x) → y < 18446744073709551616 → Calls prog 184 #[.pointer (some ⟨p, 0, none⟩), .int .u64 (y : Int)] W fun e w' => e = .returned (.pointer (some ⟨p, 0, none⟩)) ∧ qaq w' p (y : Int) 2 ∧ W.grownBy w' (some p)) := fun W p y ⟨b, u, h, hu⟩ hy =>
  qjG p b u y W hy h hu
 by_cases hx : x < 0
 ·obtain ⟨y, hy⟩ : ∃ y : Nat, (y : Int) = x + 18446744073709551616 := ⟨(x + 18446744073709551616).toNat, by omega⟩
  obtain ⟨z, hz⟩ : ∃ z : Nat, (z : Int) = -x := ⟨(-x).toNat, by omega⟩
  have e1 : IntKind.u64.wrap x = (y : Int) := by rw [IntKind.wrap_u64]; omega
  have e2 : IntKind.u64.wrap (-(y : Int)) = (z : Int) := by rw [IntKind.wrap_u64]; omega
  have hy1 : y < 18446744073709551616 := by omega
  have hz1 : z < 18446744073709551616 := by omega
  have HZ := qh hz
  clear hy hz
  go_enter func165, ntmps165
  go_upto_region 2 with (go_at_call 184; (with_reducible refine (SET.out _ _ y ⟨_, _, qaY.new _ _ _ _ rfl, qb3 _ _ _⟩ hy1).mono ?_); rintro e w1 ⟨rfl, h9, hg9⟩)
  obtain ⟨p, hp⟩ : ∃ p, p = w.heap.size := ⟨_, rfl⟩
  rw [← hp] at h9 hg9 ⊢
  have HP := qh (show w.heap.size ≤ p by omega)
  have HI := qh h9
  have HK := qh (show Kept w w1 from qaB ((Below.refl _ _).alloc (Nat.le_refl _) _) (by omega) hg9)
  clear h9 hg9 hp
  go_upto_region 4 with (go_at_call 184; (with_reducible refine (SET.out _ _ z HI.out.box hz1).mono ?_); rintro e w2 ⟨rfl, h9, hg9⟩)
  have HI2 := qh h9
  have HK2 := qh (qaB HK.out HP.out hg9)
  obtain ⟨v, hb, -⟩ := h9
  have c0 := hb.c0
  have f0 := hb.f 0
  clear hg9 hb
  go_wp2_with fail
  go_ret
  have h := HI2.out.sign (by have := HZ.out; omega)
  rw [show -(z : Int) = x by have := HZ.out; omega] at h
  exact ⟨_, rfl, HP.out, h, HK2.out.setCell (p := ⟨p, 0, none⟩) HP.out _⟩
 ·obtain ⟨y, hy⟩ : ∃ y : Nat, (y : Int) = x := ⟨x.toNat, by omega⟩
  have e1 : IntKind.u64.wrap x = (y : Int) := by rw [IntKind.wrap_u64]; omega
  have hy1 : y < 18446744073709551616 := by omega
  have HY := qh hy
  clear hy
  go_enter func165, ntmps165
  go_wp2_with (go_at_call 184; (with_reducible refine (SET.out _ _ y ⟨_, _, qaY.new _ _ _ _ rfl, qb3 _ _ _⟩ hy1).mono ?_); rintro e w1 ⟨rfl, h9, hg9⟩)
  go_ret
  exact ⟨_, rfl, Nat.le_refl _, by rw [← HY.out]; exact h9, qaB ((Below.refl _ _).alloc (Nat.le_refl _) _) (Nat.le_refl _) hg9⟩
theorem qm8 (p r q : Nat) (b0 : Bool) (u : Value) (x y : Int) (k j : Nat) (w : World) (hx : qaq w p x k) (hy : qaq w r y j) (hk : k ≤ 100000000) (hj : j ≤ 100000000) (hq : qaY w q b0 u) (hu : ∀ x : Int, u ≠ .int .u32 x) :
  Calls prog 188 #[.pointer (some ⟨q, 0, none⟩), .pointer (some ⟨p, 0, none⟩), .pointer (some ⟨r, 0, none⟩)] w fun e w' => e = .returned (.pointer (some ⟨q, 0, none⟩)) ∧ qaq w' q (x - y) (max k j + 1) ∧ w.grownBy w' (some q) := by
 have NEG : Hid (∀ W, Kept w W → qaY W w.heap.size false (.slice none 0 0) → Calls prog 151 #[.pointer (some ⟨w.heap.size, 0, none⟩), .pointer (some ⟨r, 0, none⟩)] W fun e w' => e = .returned (.pointer (some ⟨w.heap.size, 0, none⟩)) ∧ qaq w' w.heap.size (-y) j ∧ Kept w w') := fun W h hb =>
  (qiL r w.heap.size false _ y j W (hy.kept h) hb (qb3 _ _ _)).mono fun e w' ⟨h1, h2, h3⟩ => ⟨h1, h2, qaB h (Nat.le_refl _) h3⟩
 have ADD : Hid (∀ W, Kept w W → qaq W w.heap.size (-y) j → Calls prog 134 #[.pointer (some ⟨q, 0, none⟩), .pointer (some ⟨p, 0, none⟩), .pointer (some ⟨w.heap.size, 0, none⟩)] W fun e w' => e = .returned (.pointer (some ⟨q, 0, none⟩)) ∧ qaq w' q (x - y) (max k j + 1) ∧ w.grownBy w' (some q)) := fun W h hb =>
  (qi8 p w.heap.size q b0 u x (-y) k j W (hx.kept h) hb hk hj (hq.kept h) hu).mono fun e w' ⟨h1, h2, h3⟩ => ⟨h1, by rw [Int.sub_eq_add_neg]; exact h2, qbe h h3⟩
 clear hx hy hq hu
 go_enter func188, ntmps188
 go_wp2_with (first
  | (go_at_call 151; (with_reducible refine (NEG.out _ ?_ ?_).mono ?_); (exact (Below.refl _ _).alloc (Nat.le_refl _) _); (exact qaY.new _ _ _ _ rfl); rintro e w8 ⟨rfl, h8, hk8⟩)
  | (go_at_call 134; (with_reducible refine (ADD.out _ hk8 h8).mono ?_); rintro e w9 ⟨rfl, h9, hg9⟩))
 go_ret
 exact ⟨rfl, h9, hg9⟩
theorem qjw (p q : Nat) (b0 : Bool) (u : Value) (x s : Nat) (k : Nat) (w : World) (hx : qaq w p (x : Int) k) (hk : k ≤ 100000000) (hs : s ≤ 1000000000) (hq : qaY w q b0 u) (hu : ∀ x : Int, u ≠ .int .u32 x) :
  Calls prog 167 #[.pointer (some ⟨q, 0, none⟩), .pointer (some ⟨p, 0, none⟩), .int .u64 (s : Int)] w fun e w' => e = .returned (.pointer (some ⟨q, 0, none⟩)) ∧ qaq w' q ((x / 2 ^ s : Nat) : Int) k ∧ w.grownBy w' (some q) := by
 obtain ⟨v, hb, A, c, l, rfl, hlc, hl, hr, hdl⟩ := hx
 rw [Int.natAbs_natCast] at hdl
 rw [decide_eq_false (show ¬ (x : Int) < 0 by omega)] at hb
 have C1 : Hid (∀ W, Kept w W → Calls prog 186 #[.slice A l.length c, .int .u64 (s : Int)] W fun e w' => ∃ v, e = .returned v ∧ qbR w' v (x / 2 ^ s) k ∧ Kept w w') := fun W h =>
  (qjN A c l x s W (by omega) hlc hs (hr.kept h) hdl).mono fun e w' ⟨v, h1, h2, h3⟩ => ⟨v, h1, h2.more (by omega), h.trans' h3⟩
 have C2 : Hid (∀ W v, Kept w W → qbR W v (x / 2 ^ s) k → Calls prog 152 #[.pointer (some ⟨q, 0, none⟩), .bool false, v] W fun e w' => e = .returned (.pointer (some ⟨q, 0, none⟩)) ∧ qaq w' q ((x / 2 ^ s : Nat) : Int) k ∧ w.grownBy w' (some q)) := fun W v h hd =>
  (qbM q b0 false u v ((x / 2 ^ s : Nat) : Int) (x / 2 ^ s) _ W (hq.kept h) hu hd (Int.natAbs_natCast _) (by rw [Bool.false_and, decide_eq_false (Int.not_lt.2 (Int.natCast_nonneg _))])).mono fun e w' ⟨h1, h2, h3⟩ => ⟨h1, h2, qbe h h3⟩
 have SK : Hid (∀ W, Kept w W → W.cell? ⟨p, 0, none⟩ = some (.bool false) ∧ W.cell? ⟨p, 1, none⟩ = some (.slice A l.length c)) := fun W h => ⟨(hb.kept h).c0, (hb.kept h).c1⟩
 have hS0 := SK.out w (Below.refl _ _)
 clear hb hr hdl hq hu
 go_enter func167, ntmps167
 go_upto_region 2 with (go_at_call 186; (with_reducible refine (C1.out _ (Below.refl _ _)).mono ?_); rintro e w8 ⟨v8, rfl, hd8, hk8⟩)
 have K8 := qh hk8
 have D8 := qh hd8
 have hS8 := SK.out w8 hk8
 clear hk8 hd8
 go_wp2_with (go_at_call 152; (with_reducible refine (C2.out _ _ K8.out D8.out).mono ?_); rintro e w9 ⟨rfl, h9, hg9⟩)
 go_ret
 exact ⟨rfl, h9, hg9⟩
end
section
set_option maxHeartbeats 1600000
set_option maxRecDepth 100000
theorem qfP (s : ByteArray) : (s.data.toList.map fun b => Value.int .u8 (b.toNat : Int)) = bytesV s.data.toList := rfl
theorem qmf (d : DyD) (w : World) (hd : d.n.size ≤ 10000000) :
  Calls prog 109 #[.agg #[.bool d.neg, .string d.n, .int .i64 d.e]] w fun e w' => ∃ p, e = .returned (.pointer (some ⟨p, 0, none⟩)) ∧ w.heap.size ≤ p ∧ qaq w' p d.num (d.n.size / 4 + 1) ∧ Kept w w' := by
 obtain ⟨neg, s, x⟩ := d
 simp only at hd ⊢
 have SET : Hid (∀ W (p : Nat) (A : Option Addr) (c : Nat), (∃ b u, qaY W p b u ∧ ∀ x : Int, u ≠ .int .u32 x) → Row W A (bytesV s.data.toList) → Calls prog 150 #[.pointer (some ⟨p, 0, none⟩), .slice A s.size c] W fun e w' => e = .returned (.pointer (some ⟨p, 0, none⟩)) ∧ qaq w' p (qfl s : Int) (s.size / 4 + 1) ∧ W.grownBy w' (some p)) := fun W p A c ⟨b, u, h, hu⟩ hr => by
  have hl : s.data.toList.length = s.size := by rw [Array.length_toList, ByteArray.size_data]
  have := qdU p b u A c s.data.toList W (by omega) hr h hu
  rw [hl] at this
  exact this
 go_enter func109, ntmps109
 go_upto_region 2 with ((with_reducible show wpList _ _ _ _ _ _); refine qcz _ rfl 22 97 5 _ rfl underlying22 underlying97 underlying5 s rfl ?_ ?_)
 ·unfold maxLen; omega
 ·intro A c w1 hown hk1
  rw [qfP] at hown
  have HR := qh hown.row
  have HBX : Hid (qaY w1 (w.heap.size + 1) false (.slice none 0 0)) := by
   refine qaY.kept ?_ hk1
   exact qaY.new _ _ _ _ (by simp)
  have KK : Hid (Kept w w1) := Kept.trans' (Kept.new (Kept.new (Below.refl _ w) _) _) hk1
  have cn : w1.cell? ⟨w.heap.size, 0, none⟩ = some (.bool neg) := by
   rw [hk1.cells _ _ (by simp; omega)]; simp
  have hsz : w.heap.size + 2 ≤ w1.heap.size := by have := hk1.size; simp at this; omega
  clear hown hk1
  obtain ⟨n, hw⟩ : ∃ n, n = w.heap.size := ⟨_, rfl⟩
  rw [← hw] at HBX cn hsz ⊢
  have HW := qh (show w.heap.size ≤ n + 1 by omega)
  clear hw
  go_upto_region 2 with (go_at_call 150; (with_reducible refine (SET.out _ _ _ _ ⟨_, _, HBX.out, qb3 _ _ _⟩ HR.out).mono ?_); rintro e w2 ⟨rfl, h9, hg9⟩)
  have cn2 : w2.cell? ⟨n, 0, none⟩ = some (.bool neg) := by
   rw [← cn]; unfold World.cell?; rw [hg9.block n (by omega) (by simp)]
  have K2 := qh (qaB KK.out HW.out hg9)
  have H9 := qh h9
  clear cn hg9 HBX HR hsz SET h9
  cases neg with
  | false =>
   go_wp2_with fail
   go_ret
   exact ⟨_, rfl, HW.out, H9.out, K2.out⟩
  | true =>
   have NEG : Hid (Calls prog 151 #[.pointer (some ⟨n + 1, 0, none⟩), .pointer (some ⟨n + 1, 0, none⟩)] w2 fun e w' => e = .returned (.pointer (some ⟨n + 1, 0, none⟩)) ∧ qaq w' (n + 1) (-(qfl s : Int)) (s.size / 4 + 1) ∧ w2.grownBy w' (some (n + 1))) := by
    obtain ⟨b, u, hb, hu⟩ := H9.out.box
    exact qiL (n + 1) (n + 1) b u _ _ w2 H9.out hb hu
   go_wp2_with (go_at_call 151; (with_reducible refine NEG.out.mono ?_); rintro e w3 ⟨rfl, h8, hg8⟩)
   go_ret
   exact ⟨_, rfl, HW.out, h8, qaB K2.out HW.out hg8⟩
theorem qh4 {z e : Int} {t y : Nat} (h0 : z ≠ 0) (ht : t = tz z.natAbs) (hy : y = z.natAbs / 2 ^ t) (h1 : (qay y).length ≤ 16384) (h2 : -1048576 ≤ e + t) (h3 : e + t ≤ 1048576) : qbh z e = (⟨decide (z < 0), ⟨(qay y).toArray⟩, e + t⟩, 0) := by
 have hlt : y < qjP := by
  rw [qeh]
  rw [qaR] at h1
  exact qgp ((qcB (B := 256) (by omega) y).lt) h1
 have hy0 : y ≠ 0 := by
  have := qfI (show z.natAbs ≠ 0 by omega)
  intro e0
  have h4 := this.2
  rw [← ht, ← hy, e0] at h4
  simp at h4
 subst ht hy
 unfold qbh
 rw [if_neg h0, if_pos ⟨hlt, h2, h3⟩]
 have e1 : (z.sign * ((z.natAbs / 2 ^ tz z.natAbs : Nat) : Int)).natAbs = z.natAbs / 2 ^ tz z.natAbs := by
  rw [Int.natAbs_mul, Int.natAbs_sign_of_ne_zero h0, Nat.one_mul]; rfl
 generalize z.natAbs / 2 ^ tz z.natAbs = y at *
 unfold mkD
 rw [e1]
 congr 2
 rcases Int.lt_trichotomy z 0 with h | h | h
 ·rw [Int.sign_eq_neg_one_of_neg h, decide_eq_true h, decide_eq_true (by omega)]
 ·exact absurd h h0
 ·rw [Int.sign_eq_one_of_pos h, decide_eq_false (by omega), decide_eq_false (by omega)]
theorem qhy {z e : Int} {t y : Nat} (h0 : z ≠ 0) (ht : t = tz z.natAbs) (hy : y = z.natAbs / 2 ^ t) (h1 : 16384 < (qay y).length ∨ 1048576 < e + t ∨ e + t < -1048576) : qbh z e = (zD, 4) := by
 subst ht hy
 unfold qbh
 rw [if_neg h0, if_neg]
 intro h2
 rcases h1 with h | h | h
 ·have h3 := h2.1
  rw [qeh] at h3
  have := qiF h3
  rw [qaR] at h
  omega
 ·omega
 ·omega
theorem qev {P : Program} {src dst e : TypeId} (hs : P.underlying src = some (.slice e)) (he : P.underlying e = some (.int .u8)) (hd : P.underlying dst = some .string)
  {w : World} {A : Option Addr} {n c : Nat} {l : List UInt8} (hl : l.length = n) (hr : Row w A (bytesV l)) : (convert src dst (.slice A n c)).run P w = .ok (.string ⟨l.toArray⟩) w := by
 have hb : bytesV l = (l.map fun b => (b.toNat : Int)).map (Value.int .u8) := by simp [bytesV]
 rw [run_convert_bytes_string w src dst e A n c hs he hd]
 have key : ∀ a : Addr, A = some a → (loadCells a n).run P w = .ok ((l.map fun b => (b.toNat : Int)).map (Value.int .u8)).toArray w := by
  intro a ha
  have := run_loadCells_list (P := P) w a ((l.map fun b => (b.toNat : Int)).map (Value.int .u8)) (fun j v hj => by
   rw [← hb] at hj
   rcases hr with h | ⟨b, off, h, hc⟩
   ·rw [h] at hj; simp at hj
   ·rw [ha] at h
    injection h with h
    subst h
    rw [qcV]
    exact hc j v hj)
  simpa [hl] using this
 cases A with
 | none =>
  have : l = [] := by
   rcases hr with h | ⟨b, off, h, _⟩
   ·simpa [bytesV] using h
   ·cases h
  subst this
  simp [Conv.bytesToString, ByteArray.empty, ByteArray.emptyWithCapacity]
  rfl
 | some a =>
  have hid : ((fun n : Int => UInt8.ofNat n.toNat) ∘ fun b : UInt8 => (b.toNat : Int)) = id := by funext b; simp
  rw [run_bytesToString w a n c _ (key a rfl), foldl_push_bytes, List.map_map, hid]
  simp [ByteArray.empty, ByteArray.emptyWithCapacity]
  rfl
abbrev dyV (d : DyD) : Value := .agg #[.bool d.neg, .string d.n, .int .i64 d.e]
abbrev qaf (x : DyD × Int) : Value := .tuple #[.agg #[.bool x.1.neg, .string x.1.n, .int .i64 x.1.e], .int .i64 x.2]
theorem qha (p : Nat) (z e : Int) (k : Nat) (w : World) (hz : qaq w p z k) (hk : k ≤ 1000000) (h1 : -1000000000 ≤ e) (h2 : e ≤ 1000000000) (hT : T32 w) :
  Calls prog 133 #[.pointer (some ⟨p, 0, none⟩), .int .i64 e] w fun en w' => en = .returned (qaf (qbh z e)) ∧ Kept w w' := by
 have SIGN : Hid (∀ W, Kept w W → Calls prog 154 #[.pointer (some ⟨p, 0, none⟩)] W fun e w' => e = .returned (.int .i64 z.sign) ∧ w' = W) := fun W h => qfO p z k W (hz.kept h)
 by_cases h0 : z = 0
 ·subst h0
  rw [qcR]
  clear hz hT
  go_enter func133, ntmps133
  go_upto_region 1 with fail
  have B1 := qh (Bx.new w (LC0 false ⟨#[]⟩ 0) 24 w.heap.size rfl)
  have K1 := qh (Kept.new (Below.refl _ w) (.cells (LC0 false ⟨#[]⟩ 0).toArray 24))
  obtain ⟨b, hb⟩ : ∃ b, b = w.heap.size := ⟨_, rfl⟩
  rw [← hb] at B1 ⊢
  have HB := qh (show w.heap.size ≤ b by omega)
  clear hb
  generalize (w.alloc (.cells (LC0 false ⟨#[]⟩ 0).toArray 24)) = w1 at *
  obtain ⟨c0, c1, c2⟩ := B1.out.c3
  obtain ⟨f0, f1, f2⟩ := B1.out.f3
  go_wp2_with (go_at_call 154; (with_reducible refine (SIGN.out _ K1.out).mono ?_); rintro e w3 ⟨rfl, hw3⟩; replace hw3 := hw3.symm; subst hw3)
  exact bodyPost_ret (v := qaf (zD, 0)) (by simp [results, results133, go_sem, c0, c1, c2, qaf, zD]) rfl ⟨rfl, K1.out.qaL HB.out _ _ _⟩
 ·have hs : ¬ z.sign = 0 := fun e0 => h0 (Int.sign_eq_zero_iff_zero.1 e0)
  obtain ⟨t, ht⟩ : ∃ t, t = tz z.natAbs := ⟨_, rfl⟩
  obtain ⟨y, hy⟩ : ∃ y, y = z.natAbs / 2 ^ t := ⟨_, rfl⟩
  have ht9 : t ≤ 32 * k := by
   obtain ⟨v, hb, A, c, l, rfl, -, hl, hr, hdl⟩ := hz
   have h3 := hdl.lt
   rw [show (4294967296 : Nat) = 2 ^ 32 by decide, ← Nat.pow_mul] at h3
   have := (qfI (show z.natAbs ≠ 0 by omega)).lt h3
   omega
  have TZ : Hid (∀ W, Kept w W → Calls prog 166 #[.pointer (some ⟨p, 0, none⟩)] W fun e w' => e = .returned (.int .u64 (t : Int)) ∧ w' = W) := fun W h =>
   qn6 p z k t W (hz.kept h) (by omega) (by rw [ht]; exact qfI (by omega)) (hT.kept h)
  have ABS : Hid (∀ W q, Kept w W → qaY W q false (.slice none 0 0) → Calls prog 168 #[.pointer (some ⟨q, 0, none⟩), .pointer (some ⟨p, 0, none⟩)] W fun e w' => e = .returned (.pointer (some ⟨q, 0, none⟩)) ∧ qaq w' q (z.natAbs : Int) k ∧ W.grownBy w' (some q)) := fun W q h hq =>
   qmB p q false _ z k W (hz.kept h) hq (qb3 _ _ _)
  have RSH : Hid (∀ W q r, qaY W q false (.slice none 0 0) → qaq W r (z.natAbs : Int) k → Calls prog 167 #[.pointer (some ⟨q, 0, none⟩), .pointer (some ⟨r, 0, none⟩), .int .u64 (t : Int)] W fun e w' => e = .returned (.pointer (some ⟨q, 0, none⟩)) ∧ qaq w' q (y : Int) k ∧ W.grownBy w' (some q)) := fun W q r hq hr => by
   rw [hy]
   exact qjw r q false _ z.natAbs t k W hr (by omega) (by omega) hq (qb3 _ _ _)
  have BYTES : Hid (∀ W q, qaq W q (y : Int) k → Calls prog 169 #[.pointer (some ⟨q, 0, none⟩)] W fun e w' => ∃ A c, e = .returned (.slice A (qay y).length c) ∧ (qay y).length ≤ c ∧ (qay y).length ≤ 4 * k ∧ Row w' A (bytesV (qay y)) ∧ Kept W w') := fun W q h => by
   have := qkE q (y : Int) k W h (by omega)
   rwa [Int.natAbs_natCast] at this
  have HT := qh (And.intro ht hy)
  clear hz hT ht hy
  go_enter func133, ntmps133
  go_upto_region 1 with fail
  have B1 := qh (Bx.new w (LC0 false ⟨#[]⟩ 0) 24 w.heap.size rfl)
  have K1 := qh (Kept.new (Below.refl _ w) (.cells (LC0 false ⟨#[]⟩ 0).toArray 24))
  obtain ⟨b, hb⟩ : ∃ b, b = w.heap.size := ⟨_, rfl⟩
  rw [← hb] at B1 ⊢
  have HB := qh (show w.heap.size ≤ b by omega)
  clear hb
  generalize (w.alloc (.cells (LC0 false ⟨#[]⟩ 0).toArray 24)) = w1 at *
  have e2 : ¬ 1099511627776 < e := by omega
  have e3 : ¬ e < -1099511627776 := by omega
  have e4 : IntKind.i64.wrap (t : Int) = t := by rw [IntKind.wrap_i64]; omega
  have e5 : IntKind.u64.wrap (t : Int) = t := by rw [IntKind.wrap_u64]; omega
  go_upto_region 7 with (first
   | (go_at_call 154; (with_reducible refine (SIGN.out _ K1.out).mono ?_); rintro e w3 ⟨rfl, hw3⟩; replace hw3 := hw3.symm; subst hw3)
   | (go_at_call 166; (with_reducible refine (TZ.out _ K1.out).mono ?_); rintro e w3 ⟨rfl, hw3⟩; replace hw3 := hw3.symm; subst hw3))
  go_upto_region 8 with (first
   | (go_at_call 168; (with_reducible refine (ABS.out _ (w1.heap.size + 1) (Kept.new (Kept.new K1.out _) _) (qaY.new _ _ _ _ (by simp))).mono ?_); rintro e w4 ⟨rfl, h4, hg4⟩)
   | (go_at_call 167; (with_reducible refine (RSH.out _ w1.heap.size _ (qaY.grown (qaY.kept (qaY.new w1 _ _ _ rfl) (Kept.new (Below.refl _ _) _)) hg4 (by omega)) h4).mono ?_); rintro e w5 ⟨rfl, h5, hg5⟩)
   | (go_at_call 169; (with_reducible refine (BYTES.out _ _ h5).mono ?_); rintro e w6 ⟨A, c, rfl, hc6, hk6, hr6, hkk6⟩))
  have K6 := qh (show Kept w1 w6 from (qaB (qaB (Kept.new (Kept.new (Below.refl _ w1) _) _) (by omega) hg4) (Nat.le_refl _) hg5).trans' hkk6)
  have R6 := qh hr6
  clear hg4 hg5 hkk6 hr6 h4 h5 ABS RSH BYTES
  obtain ⟨m, hm⟩ : ∃ m, m = (qay y).length := ⟨_, rfl⟩
  rw [← hm] at hc6 ⊢
  have HM := qh hm
  rw [← hm] at hk6
  clear hm
  have B6 := qh (B1.out.kept K6.out)
  have KW := qh (K1.out.trans' K6.out)
  obtain ⟨c0, c1, c2⟩ := B6.out.c3
  obtain ⟨f0, f1, f2⟩ := B6.out.f3
  clear K6 B1 K1 TZ e2 e3 e4 e5
  have BAD : Hid ((16384 < m ∨ 1048576 < e + t ∨ e + t < -1048576) → qbh z e = (zD, 4)) := fun h => qhy h0 HT.out.1 HT.out.2 (by rw [← HM.out]; exact h)
  by_cases a1 : 16384 < m
  ·have i1 : (16384 : Int) < m := by omega
   have HX := qh (BAD.out (.inl a1))
   clear SIGN BAD
   go_wp2_with fail
   exact bodyPost_ret (v := qaf (zD, 4)) (by simp [results, results133, go_sem, c0, c1, c2, qaf, zD]) rfl ⟨by rw [HX.out], KW.out.qaL HB.out _ _ _⟩
  ·have i1 : ¬ (16384 : Int) < m := by omega
   by_cases a2 : 1048576 < e + t
   ·have HX := qh (BAD.out (.inr (.inl a2)))
    clear SIGN BAD
    go_wp2_with fail
    exact bodyPost_ret (v := qaf (zD, 4)) (by simp [results, results133, go_sem, c0, c1, c2, qaf, zD]) rfl ⟨by rw [HX.out], KW.out.qaL HB.out _ _ _⟩
   ·by_cases a3 : e + t < -1048576
    ·have HX := qh (BAD.out (.inr (.inr a3)))
     clear SIGN BAD
     go_wp2_with fail
     exact bodyPost_ret (v := qaf (zD, 4)) (by simp [results, results133, go_sem, c0, c1, c2, qaf, zD]) rfl ⟨by rw [HX.out], KW.out.qaL HB.out _ _ _⟩
    ·have HX := qh (qh4 (e := e) h0 HT.out.1 HT.out.2 (by rw [← HM.out]; omega) (by omega) (by omega))
     have kv : Hid (∀ W, Kept w6 W → (convert 97 22 (.slice A m c)).run prog W = .ok (.string ⟨(qay y).toArray⟩) W) := fun W h =>
      qev underlying97 underlying5 underlying22 HM.out.symm (R6.out.kept h)
     have hsn : decide (z.sign < 0) = decide (z < 0) := by
      rw [Bool.eq_iff_iff, decide_eq_true_eq, decide_eq_true_eq]
      exact Int.sign_neg_iff
     clear BAD
     go_wp2_with fail
     refine qab (fun W => (convert 97 22 (.slice A m c)).run prog W = .ok (.string ⟨(qay y).toArray⟩) W) [7,8] (by kernel_rfl) ?_ (fun hHeld => ?_)
     ·first | exact kv.out _ (Below.refl _ w6).drew | assumption
     refine wS 0 45 ?_
     refine wS 3 48 ?_
     refine wS 4 49 ?_
     refine wS 5 50 ?_
     refine oS 1 fun K hK => ?_
     go_simp
     (refine (SIGN.out _ (KW.out.trans' (Below.refl _ w6).drew)).mono ?_; rintro e w7 ⟨rfl, hw7⟩; subst hw7)
     refine hK.out _ _ ?_ (fun hHeld => ?_)
     ·first | exact kv.out _ (Below.refl _ w6).drew | assumption
     clear hK K
     try simp only [Act.put, tdy]
     refine wS 2 47 ?_
     refine wS 6 51 ?_
     refine eS 7 fun K hK => ?_
     go_simp
     refine hK.out _ _ ?_
     clear hK K
     try simp only [Act.put, tdy]
     refine eS 8 fun K hK => ?_
     go_simp
     refine hK.out _ _ ?_
     clear hK K
     try simp only [Act.put, tdy]
     refine dS ?_ _
     go_wp2_with fail
     exact bodyPost_ret (v := qaf (qbh z e)) (by rw [HX.out]; simp [results, results133, go_sem, c0, c1, c2, qaf, hsn]) rfl ⟨rfl, (KW.out.trans' (Below.refl _ w6).drew).qaL HB.out _ _ _⟩
end
theorem D8.bytes {l : List Nat} {n : Nat} (h : D8 l n) : l.length = (qay n).length := by rw [qaR, h.qkQ (by omega)]
theorem D8.byte {l : List Nat} {n i d : Nat} (h : D8 l n) (hd : l[i]? = some d) : d = n / 256 ^ i % 256 := by
 have := qey l (by omega) h.ok i d hd
 rw [h.val] at this; exact this.symm
set_option maxRecDepth 100000 in
set_option maxHeartbeats 1600000 in
theorem qlq (A : Option Addr) (c : Nat) (l : List Nat) (n : Nat) (w : World) (hl : l.length ≤ 1000000) (hr : Row w A (qaU l)) (hd : D8 l n) :
  Calls prog 183 #[.slice A l.length c] w fun e w' => e = .returned (.string (qa8 n)) ∧ Kept w w' := by
 have HR := qh hr
 have HD := qh hd
 obtain ⟨m, hm⟩ : ∃ m, m = l.length := ⟨_, rfl⟩
 rw [← hm] at hl ⊢
 have HM := qh hm
 have hgo : (¬ (0 : Int) < m) ∨ (∃ (b off t : Nat), A = some ⟨b, off, none⟩ ∧ (0 : Int) < m ∧ ¬ (t : Int) = 0 ∧ w.cell? ⟨b, off + (m - 1), none⟩ = some (.int .i64 (t : Nat))) := by
  rcases Nat.eq_zero_or_pos m with h | h
  ·exact .inl (by omega)
  ·have hx : l[m - 1]? = some (l[m - 1]'(by omega)) := List.getElem?_eq_getElem _
   obtain ⟨b, off, hA, hc⟩ := qbS hr hx
   refine .inr ⟨b, off, _, hA, by omega, ?_, hc⟩
   intro e
   have := hd.top
   rw [List.getLast?_eq_getElem?, ← hm, hx] at this
   exact this (by congr 1; omega)
 have mk := qig m (by omega)
 clear hr hd hm
 rcases hgo with h1 | ⟨b1, off1, t1, rfl, h1, h2, c1⟩
 ·go_enter func183, ntmps183
  go_wp2_with fail
  go_loopg [3] 0 (fun gh v3 wr => v3 = .int .i64 (m : Int) ∧ wr = w)
  case atStart => exact ⟨rfl, rfl⟩
  case round =>
   obtain ⟨rfl, rfl⟩ := hrel
   go_upto_region 5 with fail
   have HO := qh (qir wr m (by omega))
   have HK := qh (show Kept wr (wr.alloc (.cells (qdc m) 5)) from (Below.refl _ _).alloc (Nat.le_refl _) _)
   obtain ⟨g, hg⟩ : ∃ g, g = wr.heap.size := ⟨_, rfl⟩
   rw [← hg] at HO ⊢
   have HG := qh hg
   obtain ⟨w0, hw0⟩ : ∃ w0, w0 = wr := ⟨_, rfl⟩
   subst hw0
   generalize (World.alloc w0 (.cells (qdc m) 5)) = W1 at *
   clear mk hg
   go_wp2_with fail
   go_loopg [5] 0 (fun gh v5 wr => ∃ (i : Nat) (L : List UInt8), i + gh = 0 ∧ v5 = .int .i64 i ∧ L.length = m ∧ (∀ j, j < i → L[m - 1 - j]? = some (UInt8.ofNat (n / 256 ^ j % 256))) ∧
    Own wr g 1 (.slice (some ⟨g, 0, none⟩) m m) m (bytesV L) ∧ Kept w0 wr)
   case atStart => exact ⟨0, List.replicate m 0, by omega, rfl, by simp, fun j hj => by omega, HO.out, HK.out⟩
   case round =>
    obtain ⟨i, L, hig, rfl, hL, hv, ho, hk1⟩ := hrel
    have HV := qh hv
    have HOW := qh ho
    have HKR := qh hk1
    obtain rfl : i = m := by omega
    have hF : L = qay n := qeJ (by rw [hL, HM.out, HD.out.bytes, qaR]) (fun q hq => by rw [hL]; exact hv q (by omega))
    have kv : (convert 97 9 (.slice (some ⟨g, 0, none⟩) i i)).run prog wr = .ok (.string (qa8 n)) wr := by
     have := qev (P := prog) (src := 97) (dst := 9) (e := 5) underlying97 underlying5 underlying9 hL ho.row (c := i)
     rw [this, hF]; rfl
    clear hv ho hk1 hF
    go_wp2_with fail
    go_ret
    exact ⟨rfl, HKR.out⟩
 ·go_enter func183, ntmps183
  go_wp2_with fail
  go_loopg [3] 0 (fun gh v3 wr => v3 = .int .i64 (m : Int) ∧ wr = w)
  case atStart => exact ⟨rfl, rfl⟩
  case round =>
   obtain ⟨rfl, rfl⟩ := hrel
   go_upto_region 5 with fail
   have HO := qh (qir wr m (by omega))
   have HK := qh (show Kept wr (wr.alloc (.cells (qdc m) 5)) from (Below.refl _ _).alloc (Nat.le_refl _) _)
   obtain ⟨g, hg⟩ : ∃ g, g = wr.heap.size := ⟨_, rfl⟩
   rw [← hg] at HO ⊢
   have HG := qh hg
   obtain ⟨w0, hw0⟩ : ∃ w0, w0 = wr := ⟨_, rfl⟩
   subst hw0
   generalize (World.alloc w0 (.cells (qdc m) 5)) = W1 at *
   clear mk hg
   go_wp2_with fail
   go_loopg [5] m (fun gh v5 wr => ∃ (i : Nat) (L : List UInt8), i + gh = m ∧ v5 = .int .i64 i ∧ L.length = m ∧ (∀ j, j < i → L[m - 1 - j]? = some (UInt8.ofNat (n / 256 ^ j % 256))) ∧
    Own wr g 1 (.slice (some ⟨g, 0, none⟩) m m) m (bytesV L) ∧ Kept w0 wr)
   case atStart => exact ⟨0, List.replicate m 0, by omega, rfl, by simp, fun j hj => by omega, HO.out, HK.out⟩
   case round =>
    obtain ⟨i, L, hig, rfl, hL, hv, ho, hk1⟩ := hrel
    have HV := qh hv
    have HOW := qh ho
    have HKR := qh hk1
    cases gk with
    | zero =>
     obtain rfl : i = m := by omega
     have hF : L = qay n := qeJ (by rw [hL, HM.out, HD.out.bytes, qaR]) (fun q hq => by rw [hL]; exact hv q (by omega))
     have kv : (convert 97 9 (.slice (some ⟨g, 0, none⟩) i i)).run prog wr = .ok (.string (qa8 n)) wr := by
      have := qev (P := prog) (src := 97) (dst := 9) (e := 5) underlying97 underlying5 underlying9 hL ho.row (c := i)
      rw [this, hF]; rfl
     clear hv ho hk1 hF
     go_wp2_with fail
     go_ret
     exact ⟨rfl, HKR.out⟩
    | succ gh =>
     obtain ⟨d, hd⟩ : ∃ x, l[i]? = some x := ⟨_, List.getElem?_eq_getElem (by have := HM.out; omega)⟩
     obtain ⟨b, off, hA, c0⟩ := qbS (HR.out.kept hk1) hd
     have hdb := HD.out.ok d (List.mem_of_getElem? hd)
     have HX := qh (HD.out.byte hd)
     obtain ⟨⟨u0, c2⟩, f0⟩ := ho.free (j := m - 1 - i) (by omega)
     have hx1 : (0 : Int) ≤ (m : Int) - 1 - i := by omega
     have hx2 : (m : Int) - 1 - i < m := by omega
     have hx3 : ((m : Int) - 1 - i).toNat = m - 1 - i := by omega
     have hin : (i : Int) < m := by omega
     first | subst hA | cases hA
     clear hv ho hk1 hd
     go_wp2_with fail
     go_roundg gh
     case measure => omega
     case rel =>
      refine ⟨i + 1, L.set (m - 1 - i) (UInt8.ofNat (n / 256 ^ i % 256)), by omega, by go_num, by simpa using hL, fun j hj => ?_, ?_, HKR.out.setCell (p := ⟨g, m - 1 - i, none⟩) (show w0.heap.size ≤ g by have := HG.out; omega) _⟩
      ·by_cases hji : j = i
       ·subst hji
        rw [List.getElem?_set_self (by omega)]
       ·rw [List.getElem?_set_ne (by omega)]
        exact HV.out j (by omega)
      ·have := HOW.out.byte (j := m - 1 - i) (by omega) d hdb
       rw [← HX.out]
       exact this
section
set_option maxHeartbeats 3200000
set_option maxRecDepth 100000
theorem qkP (n : Nat) (w : World) (hn : n < 18446744073709551616) :
  Calls prog 157 #[.int .u64 (n : Int)] w fun e w' => e = .returned (.string (qa8 n)) ∧ Kept w w' := by
 obtain ⟨i0, hi, hi0, hi1, hi2⟩ := info_parts qdt
 obtain ⟨m, hm⟩ : ∃ m, m = (qdD 256 n).length := ⟨_, rfl⟩
 have hm8 : m ≤ 8 := by rw [hm, qbH (by omega)]; exact hn
 have HM := qh hm
 clear hm
 go_enter func157, ntmps157
 go_wp2_with fail
 go_loopg [0, 3] m (fun gh v0 v3 wr => ∃ (i q : Nat), i + gh = m ∧ v0 = .int .u64 (q : Int) ∧ q < 18446744073709551616 ∧ q = n / 256 ^ i ∧ Own wr w.heap.size 1 v3 i (qaU ((qdD 256 n).take i)) ∧ Kept w wr)
 case atStart => exact ⟨0, n, by omega, rfl, hn, by simp, by simpa [qaU] using Own.nil w w.heap.size 1, Below.refl _ _⟩
 case round =>
  obtain ⟨i, q, hig, rfl, hqb, hq, ho, hk⟩ := hrel
  have HOW := qh ho
  have HKR := qh hk
  have HQ := qh hq
  clear hq hk
  cases gk with
  | zero =>
   obtain rfl : i = m := by omega
   have hq0 : q = 0 := by
    rw [HQ.out, Nat.div_eq_of_lt]
    exact (qbH (by omega) n i).1 (by have := HM.out; omega)
   subst hq0
   rw [List.take_of_length_le (by have := HM.out; omega)] at ho
   obtain ⟨A, c, rfl, hnc, hcm, hrow, -, -⟩ := ho.form
   have hd := qcB (B := 256) (by omega) n
   have C1 := qh (fun (W : World) (hk : Kept wr W) => qlq A c (qdD 256 n) n W (by have := HM.out; omega) (hrow.kept hk) hd)
   rw [← HM.out] at C1
   clear ho hrow
   go_wp2_with (go_at_call 183; refine (C1.out _ (Below.refl _ _)).mono ?_; rintro e w9 ⟨rfl, hk9⟩)
   go_ret
   exact ⟨rfl, HKR.out.trans' hk9⟩
  | succ gh =>
   have hge : ¬ n < 256 ^ i := fun h => by
    have := (qbH (by omega) n i).2 h
    have := HM.out; omega
   have hq0 : q ≠ 0 := by
    rw [HQ.out]
    have := Nat.div_pos (Nat.le_of_not_lt hge) (Nat.pow_pos (n := i) (show 0 < 256 by omega))
    omega
   have hx := qjp n i (by have := HM.out; omega)
   rw [← HQ.out] at hx
   have HX := qh hx
   have hq1 : (0 : Int) < q := by omega
   have hw : IntKind.i64.wrap ((q : Int) % 256) = (q : Int) % 256 := IntWalk.i64_in _ (by omega)
   clear ho hx
   go_wp2_with (at_builtin; refine qap _ rfl _ _ 98 rfl w.heap.size 3 i0 (.int .i64 0) 1 8 underlying98 hi hi0 hi1 hi2 rfl (by decide) _ i _ rfl (HOW.out.alloc _) (some ⟨wr.heap.size, 0, none⟩) 1 1 [.int .i64 ((q : Int) % 256)] rfl rfl (Row.qbA _ _ _ _ _ _ rfl rfl) (qca _) ?_ ?_ ?_ ?_)
   ·unfold maxLen; omega
   ·omega
   ·have := HKR.out.size; simp; omega
   ·intro v3 w3 hown3 hg3 hat3
    have HO3 := qh hown3
    have HK3 := qh (qa6 (HKR.out.alloc (HKR.out.size) _) (HOW.out.alloc _) (Nat.le_refl _) (by have := HKR.out.size; simp; omega) hg3)
    clear hown3 hg3 hat3
    go_wp2_with fail
    go_roundg gh
    case measure => omega
    case rel =>
     have hO := HO3.out
     rw [show (q : Int) % 256 = ((q % 256 : Nat) : Int) by omega, ← qbN] at hO
     exact ⟨i + 1, q / 256, by omega, by go_num, by omega, by rw [HQ.out, Nat.div_div_eq_div_mul, Nat.pow_succ], by rw [List.take_add_one, HX.out]; exact hO, HK3.out⟩
theorem qju (neg : Bool) (A : Option Addr) (c : Nat) (l : List Nat) (x : Nat) (z e : Int) (w : World) (hl : l.length ≤ 100000) (hr : Row w A (qaU l)) (hc : l.length ≤ c) (hd : D8 l x) (hz : z.natAbs = x) (hneg : z ≠ 0 → neg = decide (z < 0)) (he : e.natAbs ≤ 1000000000) :
  Calls prog 135 #[.bool neg, .slice A l.length c, .int .i64 e] w fun en w' => en = .returned (qaf (qbh z e)) ∧ Kept w w' := by
 obtain ⟨m, hm⟩ : ∃ m, m = l.length := ⟨_, rfl⟩
 by_cases h0 : z = 0
 ·subst h0
  have hx0 : x = 0 := by rw [← hz]; rfl
  have h1 : m = 0 := by rw [hm, (hd.qcb (by omega)).2 hx0]; rfl
  rw [← hm, h1, qcR]
  clear hr hd hneg hm h1
  go_enter func135, ntmps135
  go_wp2_with fail
  exact bodyPost_ret (v := qaf (zD, 0)) (by simp [results, results135, go_sem, qaf, zD]) rfl ⟨rfl, Kept.new (Below.refl _ _) _⟩
 ·have hx0 : x ≠ 0 := by omega
  have hm0 : m ≠ 0 := by
   intro h
   exact hx0 ((hd.qcb (by omega)).1 (List.eq_nil_of_length_eq_zero (by omega)))
  have hn := hneg h0
  obtain ⟨t, ht⟩ : ∃ t, t = tz z.natAbs := ⟨_, rfl⟩
  have hT : qch x t := by rw [ht, hz]; exact qfI hx0
  have htb : t < 8 * m := by
   have h1 := hd.lt
   rw [qje, ← hm] at h1
   exact hT.lt h1
  have LOW : Hid (∀ W, Kept w W → Calls prog 172 #[.slice A m c] W fun e w' => e = .returned (.int .i64 (t : Int)) ∧ W = w') := fun W h => by
   rw [hm]
   exact (qm7 A c l x t W (by omega) (hr.kept h) hd hT).mono fun _ _ h => ⟨h.1, h.2.symm⟩
  have HAL : Hid (∀ W, Kept w W → Calls prog 164 #[.slice A m c, .int .i64 (t : Int)] W fun e w' => ∃ v, e = .returned v ∧ qbn w' v (x / 2 ^ t) m ∧ Kept W w') := fun W h => by
   rw [hm]
   exact qgN A c l x t W (by omega) (by omega) (hr.kept h) hd
  rw [← hm] at hl ⊢
  obtain ⟨y, hy⟩ : ∃ y, y = x / 2 ^ t := ⟨_, rfl⟩
  rw [← hy] at HAL
  have HT := qh (And.intro ht (show y = z.natAbs / 2 ^ t by rw [hy, hz]))
  have hb1 : ¬ (m : Int) = 0 := by omega
  have hb2 : ((m : Int) == 0) = false := by simpa using hb1
  subst hn
  clear hr hd hz hneg hm ht hT hy hx0
  go_enter func135, ntmps135
  go_upto_region 1 with fail
  obtain ⟨b, w1, hw, hb, B0, K1, HB⟩ := qa4 w (LC0 false ⟨#[]⟩ 0) 24
  rw [← hw, ← hb]; clear hw hb
  go_upto_region 4 with (go_at_call 172; (with_reducible refine (LOW.out _ K1.out).mono ?_); rintro e w2 ⟨rfl, rfl⟩)
  go_upto_region 5 with (go_at_call 164; (with_reducible refine (HAL.out _ K1.out).mono ?_); rintro e w2 ⟨v, rfl, hv, hk2⟩)
  obtain ⟨A2, c2, l2, rfl, hl2, hl2m, hr2, hd2⟩ := hv
  obtain ⟨k, hk⟩ : ∃ k, k = l2.length := ⟨_, rfl⟩
  rw [← hk] at hl2 hl2m ⊢
  have HK := qh (And.intro hk (hk.trans hd2.bytes))
  have R2 := qh hr2
  have D2 := qh hd2
  have K2 := qh (K1.out.trans' hk2)
  have B2 := qh (B0.out.kept hk2)
  obtain ⟨b0, b1, b2⟩ := B2.out.c3
  obtain ⟨f0, f1, f2⟩ := B2.out.f3
  have BAD : Hid ((16384 < k ∨ 1048576 < e + t ∨ e + t < -1048576) → qbh z e = (zD, 4)) := fun h => qhy h0 HT.out.1 HT.out.2 (by rw [← HK.out.2]; exact h)
  clear hk hr2 hd2 hk2 LOW HAL K1 B0
  by_cases a1 : 1048576 < e
  ·have HX := qh (BAD.out (.inr (.inl (by omega))))
   clear BAD
   go_wp2_with fail
   exact bodyPost_ret (v := qaf (zD, 4)) (by simp [results, results135, go_sem, b0, b1, b2, qaf, zD]) rfl ⟨by rw [HX.out], K2.out.qaL HB.out _ _ _⟩
  ·skip
   by_cases a2 : e < -4194304
   ·have HX := qh (BAD.out (.inr (.inr (by omega))))
    clear BAD
    go_wp2_with fail
    exact bodyPost_ret (v := qaf (zD, 4)) (by simp [results, results135, go_sem, b0, b1, b2, qaf, zD]) rfl ⟨by rw [HX.out], K2.out.qaL HB.out _ _ _⟩
   ·skip
    by_cases a3 : 1048576 < e + t
    ·have HX := qh (BAD.out (.inr (.inl (by omega))))
     clear BAD
     go_wp2_with fail
     exact bodyPost_ret (v := qaf (zD, 4)) (by simp [results, results135, go_sem, b0, b1, b2, qaf, zD]) rfl ⟨by rw [HX.out], K2.out.qaL HB.out _ _ _⟩
    ·skip
     by_cases a4 : e + t < -1048576
     ·have HX := qh (BAD.out (.inr (.inr (by omega))))
      clear BAD
      go_wp2_with fail
      exact bodyPost_ret (v := qaf (zD, 4)) (by simp [results, results135, go_sem, b0, b1, b2, qaf, zD]) rfl ⟨by rw [HX.out], K2.out.qaL HB.out _ _ _⟩
     ·skip
      by_cases a5 : 16384 < k
      ·have HX := qh (BAD.out (.inl (by omega)))
       have i1 : (16384 : Int) < k := by omega
       clear BAD
       go_wp2_with fail
       exact bodyPost_ret (v := qaf (zD, 4)) (by simp [results, results135, go_sem, b0, b1, b2, qaf, zD]) rfl ⟨by rw [HX.out], K2.out.qaL HB.out _ _ _⟩
      ·skip
       have i1 : ¬ (16384 : Int) < k := by omega
       have HX := qh (qh4 (e := e) h0 HT.out.1 HT.out.2 (by rw [← HK.out.2]; omega) (by omega) (by omega))
       have mk := qig k (by omega)
       clear BAD
       go_upto_region 8 with fail
       have HO := qh (qir w2 k (by omega))
       have K3 := qh (show Kept w2 (w2.alloc (.cells (qdc k) 5)) from (Below.refl _ _).alloc (Nat.le_refl _) _)
       obtain ⟨g, hg⟩ : ∃ g, g = w2.heap.size := ⟨_, rfl⟩
       rw [← hg] at HO ⊢
       have HG := qh hg
       have hbg := qh (show b ≠ g by have := B2.out.lt; omega)
       generalize (World.alloc w2 (.cells (qdc k) 5)) = W1 at *
       clear mk hg b0 b1 b2 f0 f1 f2
       go_wp2_with fail
       go_loopg [10] k (fun gh v10 wr => ∃ (i : Nat) (L : List UInt8), i + gh = k ∧ v10 = .int .i64 i ∧ L.length = k ∧ (∀ j, j < i → L[k - 1 - j]? = some (UInt8.ofNat (y / 256 ^ j % 256))) ∧
        Own wr g 1 (.slice (some ⟨g, 0, none⟩) k k) k (bytesV L) ∧ Kept w2 wr)
       case atStart => exact ⟨0, List.replicate k 0, by omega, rfl, by simp, fun j hj => by omega, HO.out, K3.out⟩
       case round =>
        obtain ⟨i, L, hig, rfl, hL, hv, ho, hk1⟩ := hrel
        have HV := qh hv
        have HOW := qh ho
        have HKR := qh hk1
        cases gk with
        | zero =>
         obtain rfl : i = k := by omega
         have hF : L = qay y := qeJ (by rw [hL, HK.out.2, qaR]) (fun q hq => by rw [hL]; exact hv q (by omega))
         have kv : (convert 97 22 (.slice (some ⟨g, 0, none⟩) i i)).run prog wr = .ok (.string ⟨(qay y).toArray⟩) wr := by
          have := qev (P := prog) (src := 97) (dst := 22) (e := 5) underlying97 underlying5 underlying22 hL ho.row (c := i)
          rw [this, hF]
         have B3 := qh (B2.out.kept hk1)
         obtain ⟨b0, b1, b2⟩ := B3.out.c3
         obtain ⟨f0, f1, f2⟩ := B3.out.f3
         clear hv ho hk1 hF
         go_wp2_with fail
         exact bodyPost_ret (v := qaf (qbh z e)) (by rw [HX.out]; simp [results, results135, go_sem, b0, b1, b2, qaf]) rfl ⟨rfl, (K2.out.trans' HKR.out).qaL HB.out _ _ _⟩
        | succ gh =>
         obtain ⟨d, hd⟩ : ∃ x, l2[i]? = some x := ⟨_, List.getElem?_eq_getElem (by have := HK.out.1; omega)⟩
         obtain ⟨bd, od, rfl, c0⟩ := qbS (R2.out.kept hk1) hd
         have hdb := D2.out.ok d (List.mem_of_getElem? hd)
         have HXX := qh (D2.out.byte hd)
         obtain ⟨⟨u0, c2⟩, f0⟩ := ho.free (j := k - 1 - i) (by omega)
         have hx1 : (0 : Int) ≤ (k : Int) - 1 - i := by omega
         have hx2 : (k : Int) - 1 - i < k := by omega
         have hx3 : ((k : Int) - 1 - i).toNat = k - 1 - i := by omega
         have hin : (i : Int) < k := by omega
         clear hv ho hk1 hd
         go_wp2_with fail
         go_roundg gh
         case measure => omega
         case rel =>
          refine ⟨i + 1, L.set (k - 1 - i) (UInt8.ofNat (y / 256 ^ i % 256)), by omega, by go_num, by simpa using hL, fun j hj => ?_, ?_, HKR.out.setCell (p := ⟨g, k - 1 - i, none⟩) (show w2.heap.size ≤ g by have := HG.out; omega) _⟩
          ·by_cases hji : j = i
           ·subst hji
            rw [List.getElem?_set_self (by omega)]
           ·rw [List.getElem?_set_ne (by omega)]
            exact HV.out j (by omega)
          ·have := HOW.out.byte (j := k - 1 - i) (by omega) d hdb
           rw [← HXX.out]
           exact this
end
section
set_option maxHeartbeats 1600000
set_option maxRecDepth 100000
theorem qnD (n e : Int) (w : World) (h0 : -9223372036854775808 ≤ n) (h0' : n ≤ 9223372036854775807) (h1 : -1000000000 ≤ e) (h2 : e ≤ 1000000000) (hT : T32 w) :
  Calls prog 132 #[.int .i64 n, .int .i64 e] w fun en w' => en = .returned (qaf (qbh n e)) ∧ Kept w w' := by
 have NEW : Hid (∀ W, Kept w W → Calls prog 165 #[.int .i64 n] W fun en w' => ∃ p, en = .returned (.pointer (some ⟨p, 0, none⟩)) ∧ qaq w' p n 2 ∧ Kept W w') := fun W h =>
  (qjE n W h0 h0').mono fun en w' ⟨p, e1, e2, e3, e4⟩ => ⟨p, e1, e3, e4⟩
 have MADE : Hid (∀ W p, Kept w W → qaq W p n 2 → Calls prog 133 #[.pointer (some ⟨p, 0, none⟩), .int .i64 e] W fun en w' => en = .returned (qaf (qbh n e)) ∧ Kept W w') := fun W p h hp =>
  qha p n e 2 W hp (by omega) h1 h2 (hT.kept h)
 obtain ⟨r, hr⟩ : ∃ r, r = qbh n e := ⟨_, rfl⟩
 rw [← hr] at MADE ⊢
 clear hr hT
 go_enter func132, ntmps132
 go_upto_region 1 with fail
 obtain ⟨b, w1, hw, hb, B0, K1, HB⟩ := qa4 w (LC0 false ⟨#[]⟩ 0) 24
 rw [← hw, ← hb]; clear hw hb
 go_wp2_with (first
  | (go_at_call 165; (with_reducible refine (NEW.out _ K1.out).mono ?_); rintro e w3 ⟨p, rfl, h3, hk3⟩; have K3 := qh (K1.out.trans' hk3); have B3 := qh (B0.out.kept hk3))
  | (go_at_call 133; (with_reducible refine (MADE.out _ _ K3.out h3).mono ?_); rintro e w4 ⟨rfl, hk4⟩; have K4 := qh (K3.out.trans' hk4); obtain ⟨c0, c1, c2⟩ := (B3.out.kept hk4).c3; obtain ⟨f0, f1, f2⟩ := (B3.out.kept hk4).f3))
 exact bodyPost_ret (v := qaf r) (by simp [results, results132, go_sem, c0, c1, c2, qaf]) rfl ⟨rfl, K4.out.qaL HB.out _ _ _⟩
theorem qne (x y : DyD) (g c : Nat) (w : World) (hx : x.ok) (hy : y.ok) (hb : Bx w g (LC1 x.neg x.n x.e y.neg y.n y.e)) :
  Calls prog 106 #[.slice (some ⟨g, 0, none⟩) 2 c] w fun en w' => en = .returned (.bool (qad x && qad y)) ∧ Kept w w' := by
 have CX : Hid (∀ W, Calls prog 19 #[.agg #[.bool x.neg, .string x.n, .int .i64 x.e]] W fun e w' => e = .returned (.int .i64 (qcK x)) ∧ Kept W w') := fun W => qbq x W hx
 have CY : Hid (∀ W, Calls prog 19 #[.agg #[.bool y.neg, .string y.n, .int .i64 y.e]] W fun e w' => e = .returned (.int .i64 (qcK y)) ∧ Kept W w') := fun W => qbq y W hy
 obtain ⟨p, hp⟩ : ∃ p, p = qad x := ⟨_, rfl⟩
 obtain ⟨q, hq⟩ : ∃ p, p = qad y := ⟨_, rfl⟩
 unfold qcK at CX CY
 rw [← hp] at CX
 rw [← hq] at CY
 rw [← hp, ← hq]
 clear hp hq hx hy
 have HB := qh hb
 clear hb
 go_enter func106, ntmps106
 go_wp2_with fail
 go_loopg [4, 7] 2 (fun gh v4 v7 wr => ∃ i : Nat, i + gh = 2 ∧ v7 = .int .i64 i ∧ Hid ((1 ≤ i → p = true) ∧ (2 ≤ i → q = true)) ∧ Kept w wr)
 case atStart => exact ⟨0, by omega, rfl, ⟨fun h => by omega, fun h => by omega⟩, Below.refl _ _⟩
 case round =>
  obtain ⟨i, hig, rfl, HV, hk⟩ := hrel
  have HK := qh hk
  have B := HB.out.kept hk
  obtain ⟨c0, c1, c2, c3, c4, c5⟩ := B.c6
  have hlt := B.lt
  have hwl := hk.size
  clear hk B
  rcases (show i = 0 ∨ i = 1 ∨ i = 2 by omega) with rfl | rfl | rfl
  ·obtain rfl : gk = 2 := by omega
   cases p with
   | true =>
    go_wp2_with (go_at_call 19; (with_reducible refine (CX.out _).mono ?_); rintro e w3 ⟨rfl, hk3⟩)
    go_roundg 1
    case measure => omega
    case rel => exact ⟨1, by omega, by go_num, ⟨by simp, fun h => by omega⟩, (((HK.out.new _)).trans' hk3)⟩
   | false =>
    go_wp2_with (go_at_call 19; (with_reducible refine (CX.out _).mono ?_); rintro e w3 ⟨rfl, hk3⟩)
    go_ret
    exact ⟨rfl, (((HK.out.new _)).trans' hk3)⟩
  ·obtain rfl : gk = 1 := by omega
   cases q with
   | true =>
    go_wp2_with (go_at_call 19; (with_reducible refine (CY.out _).mono ?_); rintro e w3 ⟨rfl, hk3⟩)
    go_roundg 0
    case measure => omega
    case rel => exact ⟨2, by omega, by go_num, ⟨fun _ => HV.out.1 (by omega), by simp⟩, (((HK.out.new _)).trans' hk3)⟩
   | false =>
    go_wp2_with (go_at_call 19; (with_reducible refine (CY.out _).mono ?_); rintro e w3 ⟨rfl, hk3⟩)
    go_ret
    exact ⟨by simp, (((HK.out.new _)).trans' hk3)⟩
  ·obtain rfl : gk = 0 := by omega
   have e1 := HV.out.1 (by omega)
   have e2 := HV.out.2 (by omega)
   subst e1 e2
   go_wp2_with fail
   go_ret
   exact ⟨rfl, HK.out⟩
theorem qcG {d : DyD} (h : qad d = true) (h0 : d.num ≠ 0) : d.n ≠ ⟨#[]⟩ := by
 intro e
 apply h0
 have := qdS d
 rw [e] at this
 have h2 : qfl ⟨#[]⟩ = 0 := rfl
 omega
theorem qcP (d : DyD) (w : World) (hd : qad d = true) : Calls prog 20 #[.agg #[.bool d.neg, .string d.n, .int .i64 d.e]] w fun en w' => en = .returned (.int .i64 d.num.sign) ∧ Kept w w' := by
 have CK : Hid (∀ W, Calls prog 19 #[.agg #[.bool d.neg, .string d.n, .int .i64 d.e]] W fun e w' => e = .returned (.int .i64 0) ∧ Kept W w') := fun W => by
  have := qbq d W (qda hd)
  unfold qcK at this
  rw [hd] at this
  exact this
 by_cases h0 : d.num = 0
 ·obtain rfl := (qag hd).2.1 h0
  clear CK
  show Calls prog 20 #[.agg #[.bool false, .string ⟨#[]⟩, .int .i64 0]] w fun en w' => en = .returned (.int .i64 0) ∧ Kept w w'
  go_enter func20, ntmps20
  go_wp2_with fail
  go_ret
  exact ⟨rfl, Kept.new (Below.refl _ _) _⟩
 ·have hne := qcG hd h0
  have hneg := qcp hd
  have HS := qh (show d.num.sign = if d.neg then -1 else 1 by
   rw [hneg]
   rcases Int.lt_trichotomy d.num 0 with h | h | h
   ·rw [Int.sign_eq_neg_one_of_neg h, decide_eq_true h]; rfl
   ·exact absurd h h0
   ·rw [Int.sign_eq_one_of_pos h, decide_eq_false (by omega)]; rfl)
  rw [HS.out]
  obtain ⟨neg, s, x⟩ := d
  simp only at hne CK ⊢
  have hd0 : s.data.toList ≠ [] := fun h => hne ((qbG s).1 h)
  have hz : s.toList = [] ↔ False := by
   rw [Lib.toList_data]
   exact ⟨fun h => hd0 h, False.elim⟩
  have hz1 : s.toList.isEmpty = false := by
   cases h : s.toList with
   | nil => exact (hz.1 h).elim
   | cons x l => rfl
  clear HS hneg h0 hd hd0
  cases neg with
  | false =>
   go_enter func20, ntmps20
   go_upto_region 1 with fail
   obtain ⟨b, w1, hw, hb, B0, K1, HB⟩ := qa4 w (LC0 false s x) 24
   rw [← hw, ← hb]; clear hw hb
   obtain ⟨c0, c1, c2⟩ := B0.out.c3
   go_wp2_with (go_at_call 19; (with_reducible refine (CK.out _).mono ?_); rintro e w3 ⟨rfl, hk3⟩; obtain ⟨c0, c1, c2⟩ := (B0.out.kept hk3).c3)
   go_ret
   exact ⟨rfl, K1.out.trans' hk3⟩
  | true =>
   go_enter func20, ntmps20
   go_upto_region 1 with fail
   obtain ⟨b, w1, hw, hb, B0, K1, HB⟩ := qa4 w (LC0 true s x) 24
   rw [← hw, ← hb]; clear hw hb
   obtain ⟨c0, c1, c2⟩ := B0.out.c3
   go_wp2_with (go_at_call 19; (with_reducible refine (CK.out _).mono ?_); rintro e w3 ⟨rfl, hk3⟩; obtain ⟨c0, c1, c2⟩ := (B0.out.kept hk3).c3)
   go_ret
   exact ⟨rfl, K1.out.trans' hk3⟩
theorem qmL (n : Int) (w : World) : Calls prog 107 #[.int .i64 n] w fun en w' => en = .returned (.int .i64 n.sign) ∧ w' = w := by
 rcases Int.lt_trichotomy n 0 with h | h | h
 ·rw [Int.sign_eq_neg_one_of_neg h]
  go_enter func107, ntmps107
  go_wp2_with fail
  go_ret
  exact ⟨rfl, rfl⟩
 ·subst h
  go_enter func107, ntmps107
  go_wp2_with fail
  go_ret
  exact ⟨rfl, rfl⟩
 ·rw [Int.sign_eq_one_of_pos h]
  have h2 : ¬ n < 0 := by omega
  go_enter func107, ntmps107
  go_wp2_with fail
  go_ret
  exact ⟨rfl, rfl⟩
theorem qnW (d : DyD) (w : World) (hd : qad d = true) : Calls prog 147 #[.agg #[.bool d.neg, .string d.n, .int .i64 d.e]] w fun en w' => en = .returned (dyV (negS d)) ∧ Kept w w' := by
 have CS : Hid (∀ W, Calls prog 20 #[.agg #[.bool d.neg, .string d.n, .int .i64 d.e]] W fun e w' => e = .returned (.int .i64 d.num.sign) ∧ Kept W w') := fun W => qcP d W hd
 have HS := qh (show negS d = if d.num.sign = 0 then zD else ⟨!d.neg, d.n, d.e⟩ by
  unfold negS
  by_cases h : d.num = 0
  ·rw [if_pos h, h]; rfl
  ·rw [if_neg h, if_neg (fun e => h (Int.sign_eq_zero_iff_zero.1 e))])
 rw [HS.out]
 obtain ⟨neg, s, x⟩ := d
 simp only at CS ⊢
 generalize (DyD.mk neg s x).num.sign = g at *
 clear HS hd
 by_cases h0 : g = 0
 ·subst h0
  go_enter func147, ntmps147
  go_upto_region 1 with fail
  obtain ⟨b, w1, hw, hb, B0, B1, K1, HB⟩ := qa7 w (LC0 neg s x) 24 (LC0 false ⟨#[]⟩ 0) 24
  rw [← hw, ← hb]; clear hw hb
  obtain ⟨c0, c1, c2⟩ := B0.out.c3
  go_wp2_with (go_at_call 20; (with_reducible refine (CS.out _).mono ?_); rintro e w3 ⟨rfl, hk3⟩; obtain ⟨c0, c1, c2⟩ := (B0.out.kept hk3).c3; obtain ⟨d0, d1, d2⟩ := (B1.out.kept hk3).c3; obtain ⟨f0, f1, f2⟩ := (B1.out.kept hk3).f3)
  exact bodyPost_ret (v := dyV zD) (by simp [results, results147, go_sem, d0, d1, d2, dyV, zD]) rfl ⟨rfl, (K1.out.trans' hk3).qaL (by have := HB.out; omega) _ _ _⟩
 ·rw [if_neg h0]
  go_enter func147, ntmps147
  go_upto_region 1 with fail
  obtain ⟨b, w1, hw, hb, B0, B1, K1, HB⟩ := qa7 w (LC0 neg s x) 24 (LC0 false ⟨#[]⟩ 0) 24
  rw [← hw, ← hb]; clear hw hb
  obtain ⟨c0, c1, c2⟩ := B0.out.c3
  go_wp2_with (go_at_call 20; (with_reducible refine (CS.out _).mono ?_); rintro e w3 ⟨rfl, hk3⟩; obtain ⟨c0, c1, c2⟩ := (B0.out.kept hk3).c3; obtain ⟨e0, e1, e2⟩ := (B0.out.kept hk3).f3; obtain ⟨d0, d1, d2⟩ := (B1.out.kept hk3).c3; obtain ⟨f0, f1, f2⟩ := (B1.out.kept hk3).f3)
  exact bodyPost_ret (v := dyV ⟨!neg, s, x⟩) (by simp [results, results147, go_sem, d0, d1, d2, dyV]) rfl ⟨rfl, ((K1.out.trans' hk3).set HB.out _ _).qaL (by have := HB.out; omega) _ _ _⟩
end
theorem qfr (x y : DyD) (hx : qad x = true) (hy : qad y = true) (W : World) (g : Nat) (hb : Bx W g (LC1 x.neg x.n x.e y.neg y.n y.e)) :
  Calls prog 106 #[.slice (some ⟨g, 0, none⟩) 2 2] W fun en w' => en = .returned (.bool true) ∧ Kept W w' := by
 have := qne x y g 2 W (qda hx) (qda hy) hb
 rw [hx, hy] at this
 exact this
theorem qck (x : DyD) (hx : qad x = true) (W : World) :
  Calls prog 109 #[.agg #[.bool x.neg, .string x.n, .int .i64 x.e]] W fun e w' => ∃ p, e = .returned (.pointer (some ⟨p, 0, none⟩)) ∧ W.heap.size ≤ p ∧ qaq w' p x.num 4097 ∧ Kept W w' := by
 have hs := qdx hx
 exact (qmf x W (by omega)).mono fun e w' ⟨p, h1, h2, h3, h4⟩ => ⟨p, h1, h2, h3.more (by omega), h4⟩
theorem qfA (p : Nat) (x : Int) (k s : Nat) (W : World) (hk : k ≤ 100000000) (hs : s ≤ 1000000000) (h : qaq W p x k) :
  Calls prog 110 #[.pointer (some ⟨p, 0, none⟩), .pointer (some ⟨p, 0, none⟩), .int .u64 (s : Int)] W fun e w' => e = .returned (.pointer (some ⟨p, 0, none⟩)) ∧ qaq w' p (x * 2 ^ s) (k + s / 32 + 1) ∧ W.grownBy w' (some p) := by
 obtain ⟨b, u, hb, hu⟩ := h.box
 exact qiT p p b u x k s W h hk hs hb hu
theorem qn0 (p r : Nat) (x y : Int) (k j : Nat) (W : World) (hk : k ≤ 100000000) (hj : j ≤ 100000000) (h : qaq W p x k) (h' : qaq W r y j) :
  Calls prog 134 #[.pointer (some ⟨p, 0, none⟩), .pointer (some ⟨p, 0, none⟩), .pointer (some ⟨r, 0, none⟩)] W fun e w' => e = .returned (.pointer (some ⟨p, 0, none⟩)) ∧ qaq w' p (x + y) (max k j + 1) ∧ W.grownBy w' (some p) := by
 obtain ⟨b, u, hb, hu⟩ := h.box
 exact qi8 p r p b u x y k j W h h' hk hj hb hu
set_option maxRecDepth 100000 in
set_option maxHeartbeats 3200000 in
theorem qhd (x y : DyD) (w : World) (hx : qad x = true) (hy : qad y = true) (hT : T32 w) :
  Calls prog 90 #[.agg #[.bool x.neg, .string x.n, .int .i64 x.e], .agg #[.bool y.neg, .string y.n, .int .i64 y.e]] w fun en w' => en = .returned (qaf (qaS x y)) ∧ Kept w w' := by
 have ALL := qh (qfr x y hx hy)
 have SX := qh (fun W => qcP x W hx)
 have SY := qh (fun W => qcP y W hy)
 have WX := qh (qck x hx)
 have WY := qh (qck y hy)
 have hxe := (qag hx).2.2.2
 have hye := (qag hy).2.2.2
 by_cases h1 : x.num = 0
 ·have HR := qh (show qaS x y = (y, 0) by unfold qaS; rw [if_pos h1])
  rw [h1] at SX
  rw [HR.out]
  obtain ⟨xn, xs, xe⟩ := x
  obtain ⟨yn, ys, ye⟩ := y
  simp only at ALL SX ⊢
  clear HR SY WX WY hx hy h1 hT hxe hye
  go_enter func90, ntmps90
  go_upto_region 1 with fail
  obtain ⟨b, w1, hw, hb, B0, B1, B2, K1, HB⟩ := qct w (LC0 xn xs xe) 24 (LC0 yn ys ye) 24 (LC0 false ⟨#[]⟩ 0) 24
  rw [← hw, ← hb]; clear hw hb
  obtain ⟨c0, c1, c2⟩ := B0.out.c3
  obtain ⟨d0, d1, d2⟩ := B1.out.c3
  go_wp2_with (first
   | (go_at_call 106; (with_reducible refine (ALL.out _ _ ?_).mono ?_); (exact Bx.new _ _ _ _ rfl); rintro e w3 ⟨rfl, hk3⟩; have K3 := qh ((Kept.new (Below.refl _ _) _).trans' hk3); obtain ⟨c0, c1, c2⟩ := (B0.out.kept K3.out).c3)
   | (go_at_call 20; (with_reducible refine (SX.out _).mono ?_); rintro e w4 ⟨rfl, hk4⟩; have K4 := qh (K3.out.trans' hk4); obtain ⟨d0, d1, d2⟩ := (B1.out.kept K4.out).c3; obtain ⟨e0, e1, e2⟩ := (B2.out.kept K4.out).c3; obtain ⟨f0, f1, f2⟩ := (B2.out.kept K4.out).f3))
  exact bodyPost_ret (v := qaf (⟨yn, ys, ye⟩, 0)) (by simp [results, results90, go_sem, e0, e1, e2, qaf]) rfl ⟨rfl, (K1.out.trans' K4.out).qaL (by have := HB.out; omega) _ _ _⟩
 ·have hs1 : ¬ x.num.sign = 0 := fun e => h1 (Int.sign_eq_zero_iff_zero.1 e)
  by_cases h2 : y.num = 0
  ·have HR := qh (show qaS x y = (x, 0) by unfold qaS; rw [if_neg h1, if_pos h2])
   rw [h2] at SY
   rw [HR.out]
   obtain ⟨xn, xs, xe⟩ := x
   obtain ⟨yn, ys, ye⟩ := y
   simp only at ALL SX SY hs1 ⊢
   generalize (DyD.mk xn xs xe).num.sign = sg at *
   clear HR WX WY hx hy h1 h2 hT hxe hye
   go_enter func90, ntmps90
   go_upto_region 1 with fail
   obtain ⟨b, w1, hw, hb, B0, B1, B2, K1, HB⟩ := qct w (LC0 xn xs xe) 24 (LC0 yn ys ye) 24 (LC0 false ⟨#[]⟩ 0) 24
   rw [← hw, ← hb]; clear hw hb
   obtain ⟨c0, c1, c2⟩ := B0.out.c3
   obtain ⟨d0, d1, d2⟩ := B1.out.c3
   go_wp2_with (first
   | (go_at_call 106; (with_reducible refine (ALL.out _ _ ?_).mono ?_); (exact Bx.new _ _ _ _ rfl); rintro e w3 ⟨rfl, hk3⟩; have K3 := qh ((Kept.new (Below.refl _ _) _).trans' hk3); obtain ⟨c0, c1, c2⟩ := (B0.out.kept K3.out).c3)
   | (go_at_call 20; (with_reducible refine (SX.out _).mono ?_); rintro e w4 ⟨rfl, hk4⟩; have K4 := qh (K3.out.trans' hk4); obtain ⟨d0, d1, d2⟩ := (B1.out.kept K4.out).c3)
   | (go_at_call 20; (with_reducible refine (SY.out _).mono ?_); rintro e w5 ⟨rfl, hk5⟩; have K5 := qh (K4.out.trans' hk5); obtain ⟨c0, c1, c2⟩ := (B0.out.kept K5.out).c3; obtain ⟨d0, d1, d2⟩ := (B1.out.kept K5.out).c3; obtain ⟨e0, e1, e2⟩ := (B2.out.kept K5.out).c3; obtain ⟨f0, f1, f2⟩ := (B2.out.kept K5.out).f3))
   exact bodyPost_ret (v := qaf (⟨xn, xs, xe⟩, 0)) (by simp [results, results90, go_sem, e0, e1, e2, qaf]) rfl ⟨rfl, (K1.out.trans' K5.out).qaL (by have := HB.out; omega) _ _ _⟩
  ·have hs2 : ¬ y.num.sign = 0 := fun e => h2 (Int.sign_eq_zero_iff_zero.1 e)
   obtain ⟨lo, hlo⟩ : ∃ lo, lo = min x.e y.e := ⟨_, rfl⟩
   obtain ⟨hi, hhi⟩ : ∃ hi, hi = max x.e y.e := ⟨_, rfl⟩
   have l1 : (if x.e < y.e then x.e else y.e) = lo := by rw [hlo]; split <;> omega
   have l2 : (if x.e < y.e then y.e else x.e) = hi := by rw [hhi]; split <;> omega
   have l3 : (if y.e < x.e then y.e else x.e) = lo := by rw [hlo]; split <;> omega
   have l4 : (if y.e < x.e then x.e else y.e) = hi := by rw [hhi]; split <;> omega
   have b1 : lo ≤ x.e := by omega
   have b2 : lo ≤ y.e := by omega
   have b3 : hi - lo ≤ 2097152 := by omega
   have b4 : -1048576 ≤ lo := by omega
   have b5 : lo ≤ 1048576 := by omega
   have b6 : hi ≤ 1048576 := by omega
   have b7 : x.e ≤ hi := by omega
   have b8 : y.e ≤ hi := by omega
   by_cases h3 : 131080 < hi - lo
   ·have HR := qh (show qaS x y = (zD, 4) by unfold qaS; rw [if_neg h1, if_neg h2, ← hlo, ← hhi, if_pos h3])
    rw [HR.out]
    obtain ⟨xn, xs, xe⟩ := x
    obtain ⟨yn, ys, ye⟩ := y
    simp only at ALL SX SY hs1 hs2 b1 b2 b7 b8 l1 l2 l3 l4 ⊢
    generalize (DyD.mk xn xs xe).num.sign = sg at *
    generalize (DyD.mk yn ys ye).num.sign = sh at *
    replace hlo := hlo.symm
    replace hhi := hhi.symm
    simp only at hlo hhi
    clear HR WX WY hx hy h1 h2 hT hxe hye
    go_enter func90, ntmps90
    go_upto_region 1 with fail
    obtain ⟨b, w1, hw, hb, B0, B1, B2, K1, HB⟩ := qct w (LC0 xn xs xe) 24 (LC0 yn ys ye) 24 (LC0 false ⟨#[]⟩ 0) 24
    rw [← hw, ← hb]; clear hw hb
    obtain ⟨c0, c1, c2⟩ := B0.out.c3
    obtain ⟨d0, d1, d2⟩ := B1.out.c3
    go_wp2_with (first
    | (go_at_call 106; (with_reducible refine (ALL.out _ _ ?_).mono ?_); (exact Bx.new _ _ _ _ rfl); rintro e w3 ⟨rfl, hk3⟩; have K3 := qh ((Kept.new (Below.refl _ _) _).trans' hk3); obtain ⟨c0, c1, c2⟩ := (B0.out.kept K3.out).c3)
    | (go_at_call 20; (with_reducible refine (SX.out _).mono ?_); rintro e w4 ⟨rfl, hk4⟩; have K4 := qh (K3.out.trans' hk4); obtain ⟨d0, d1, d2⟩ := (B1.out.kept K4.out).c3)
    | (go_at_call 20; (with_reducible refine (SY.out _).mono ?_); rintro e w5 ⟨rfl, hk5⟩; have K5 := qh (K4.out.trans' hk5); obtain ⟨c0, c1, c2⟩ := (B0.out.kept K5.out).c3; obtain ⟨d0, d1, d2⟩ := (B1.out.kept K5.out).c3; obtain ⟨e0, e1, e2⟩ := (B2.out.kept K5.out).c3; obtain ⟨f0, f1, f2⟩ := (B2.out.kept K5.out).f3))
    exact bodyPost_ret (v := qaf (zD, 4)) (by simp [results, results90, go_sem, e0, e1, e2, qaf, zD]) rfl ⟨rfl, (K1.out.trans' K5.out).qaL (by have := HB.out; omega) _ _ _⟩
   ·obtain ⟨sx, hsx⟩ : ∃ s : Nat, (s : Int) = x.e - lo := ⟨(x.e - lo).toNat, by omega⟩
    obtain ⟨sy, hsy⟩ : ∃ s : Nat, (s : Int) = y.e - lo := ⟨(y.e - lo).toNat, by omega⟩
    have HR := qh (show qaS x y = qbh (x.num * 2 ^ sx + y.num * 2 ^ sy) lo by
     unfold qaS; rw [if_neg h1, if_neg h2, ← hlo, ← hhi, if_neg h3, ← hsx, ← hsy, Int.toNat_natCast, Int.toNat_natCast])
    rw [HR.out]
    have x9 : sx ≤ 131080 := by omega
    have y9 : sy ≤ 131080 := by omega
    have MADE : Hid (∀ W p, Kept w W → qaq W p (x.num * 2 ^ sx + y.num * 2 ^ sy) 10000 → Calls prog 133 #[.pointer (some ⟨p, 0, none⟩), .int .i64 lo] W fun en w' => en = .returned (qaf (qbh (x.num * 2 ^ sx + y.num * 2 ^ sy) lo)) ∧ Kept W w') := fun W p h hp =>
     qha p _ lo 10000 W hp (by omega) (by omega) (by omega) (hT.kept h)
    generalize qbh (x.num * 2 ^ sx + y.num * 2 ^ sy) lo = R at *
    obtain ⟨xn, xs, xe⟩ := x
    obtain ⟨yn, ys, ye⟩ := y
    simp only at ALL SX SY WX WY MADE hs1 hs2 b1 b2 b7 b8 l1 l2 l3 l4 hsx hsy ⊢
    generalize (DyD.mk xn xs xe).num = X at *
    generalize (DyD.mk yn ys ye).num = Y at *
    generalize X.sign = sg at *
    generalize Y.sign = sh at *
    replace hlo := hlo.symm
    replace hhi := hhi.symm
    simp only at hlo hhi
    replace hsx := hsx.symm
    replace hsy := hsy.symm
    have u1 : IntKind.u64.wrap (sx : Int) = sx := by rw [IntKind.wrap_u64]; omega
    have u2 : IntKind.u64.wrap (sy : Int) = sy := by rw [IntKind.wrap_u64]; omega
    clear HR hx hy h1 h2 hT hxe hye
    go_enter func90, ntmps90
    go_upto_region 1 with fail
    obtain ⟨b, w1, hw, hb, B0, B1, B2, K1, HB⟩ := qct w (LC0 xn xs xe) 24 (LC0 yn ys ye) 24 (LC0 false ⟨#[]⟩ 0) 24
    rw [← hw, ← hb]; clear hw hb
    obtain ⟨c0, c1, c2⟩ := B0.out.c3
    obtain ⟨d0, d1, d2⟩ := B1.out.c3
    go_upto_region 10 with (first
     | (go_at_call 106; (with_reducible refine (ALL.out _ _ ?_).mono ?_); (exact Bx.new _ _ _ _ rfl); rintro e w3 ⟨rfl, hk3⟩; have K3 := qh ((Kept.new (Below.refl _ _) _).trans' hk3); obtain ⟨c0, c1, c2⟩ := (B0.out.kept K3.out).c3)
     | (go_at_call 20; (with_reducible refine (SX.out _).mono ?_); rintro e w4 ⟨rfl, hk4⟩; have K4 := qh (K3.out.trans' hk4); obtain ⟨d0, d1, d2⟩ := (B1.out.kept K4.out).c3)
     | (go_at_call 20; (with_reducible refine (SY.out _).mono ?_); rintro e w5 ⟨rfl, hk5⟩; have K5 := qh (K4.out.trans' hk5); obtain ⟨c0, c1, c2⟩ := (B0.out.kept K5.out).c3; obtain ⟨d0, d1, d2⟩ := (B1.out.kept K5.out).c3))
    clear ALL SX SY K3 K4 hk4 hk5
    go_upto_region 11 with (go_at_call 109; (with_reducible refine (WX.out _).mono ?_); rintro e w6 ⟨p, rfl, hp, ip, hk6⟩)
    have K6 := qh (K5.out.trans' hk6)
    have hp1 := qh (Nat.le_trans K5.out.size hp)
    obtain ⟨d0, d1, d2⟩ := (B1.out.kept K6.out).c3
    have IP := qh ip
    clear WX hk6 hp ip K5 c0 c1 c2
    go_upto_region 12 with (go_at_call 109; (with_reducible refine (WY.out _).mono ?_); rintro e w7 ⟨q, rfl, hq, iq, hk7⟩)
    have K7 := qh (K6.out.trans' hk7)
    have hne : p ≠ q := by have := IP.out.lt; omega
    have hq1 := qh (Nat.le_trans K6.out.size hq)
    have IP7 := qh (IP.out.kept hk7)
    have IQ7 := qh iq
    obtain ⟨c0, c1, c2⟩ := (B0.out.kept K7.out).c3
    have LX := qh (qfA p X 4097 sx w7 (by omega) (by omega) IP7.out)
    clear WY hk7 hq iq K6 IP d0 d1 d2
    go_upto_region 13 with (go_at_call 110; (with_reducible refine LX.out.mono ?_); rintro e w8 ⟨rfl, ip, hg8⟩)
    have IP8 := qh ip
    have IQ8 := qh (IQ7.out.grown IP7.out hg8 (fun e => hne e.symm))
    have K8 := qh (qaB K7.out hp1.out hg8)
    obtain ⟨d0, d1, d2⟩ := (B1.out.kept K8.out).c3
    have LY := qh (qfA q Y 4097 sy w8 (by omega) (by omega) IQ8.out)
    clear hg8 ip K7 IP7 IQ7 LX c0 c1 c2
    go_upto_region 14 with (go_at_call 110; (with_reducible refine LY.out.mono ?_); rintro e w9 ⟨rfl, iq, hg9⟩)
    have IQ9 := qh iq
    have IP9 := qh (IP8.out.grown IQ8.out hg9 hne)
    have K9 := qh (qaB K8.out hq1.out hg9)
    have ADD := qh (qn0 p q _ _ _ _ w9 (by omega) (by omega) IP9.out IQ9.out)
    clear hg9 iq K8 IP8 IQ8 LY d0 d1 d2
    go_wp2_with (first
     | (go_at_call 134; (with_reducible refine ADD.out.mono ?_); rintro e w10 ⟨rfl, ip, hg10⟩; have IP10 := qh (ip.more (j := 10000) (by omega)); have K10 := qh (qaB K9.out hp1.out hg10); clear hg10 ip)
     | (go_at_call 133; (with_reducible refine (MADE.out _ _ (K1.out.trans' K10.out) IP10.out).mono ?_); rintro e w11 ⟨rfl, hk11⟩; have K11 := qh (K10.out.trans' hk11); obtain ⟨e0, e1, e2⟩ := (B2.out.kept K11.out).c3; obtain ⟨f0, f1, f2⟩ := (B2.out.kept K11.out).f3))
    exact bodyPost_ret (v := qaf R) (by simp [results, results90, go_sem, e0, e1, e2, qaf]) rfl ⟨rfl, (K1.out.trans' K11.out).qaL (by have := HB.out; omega) _ _ _⟩
section
set_option maxHeartbeats 3200000
set_option maxRecDepth 100000
theorem qjD (x y : DyD) (w : World) (hx : qad x = true) (hy : qad y = true) (hT : T32 w) :
  Calls prog 103 #[.agg #[.bool x.neg, .string x.n, .int .i64 x.e], .agg #[.bool y.neg, .string y.n, .int .i64 y.e]] w fun en w' => en = .returned (qaf (qdG x y)) ∧ Kept w w' := by
 have ALL := qh (qfr x y hx hy)
 have NEG := qh (fun W => qnW y W hy)
 have ADD : Hid (∀ W, Kept w W → Calls prog 90 #[.agg #[.bool x.neg, .string x.n, .int .i64 x.e], .agg #[.bool (negS y).neg, .string (negS y).n, .int .i64 (negS y).e]] W fun en w' => en = .returned (qaf (qdG x y)) ∧ Kept W w') := fun W h => qhd x (negS y) W hx (qfi hy) (hT.kept h)
 generalize qdG x y = R at *
 generalize negS y = z at *
 obtain ⟨xn, xs, xe⟩ := x
 obtain ⟨yn, ys, ye⟩ := y
 obtain ⟨zn, zs, ze⟩ := z
 simp only at ALL NEG ADD ⊢
 clear hx hy hT
 go_enter func103, ntmps103
 go_upto_region 1 with fail
 obtain ⟨b, w1, hw, hb, B0, B1, B2, K1, HB⟩ := qct w (LC0 xn xs xe) 24 (LC0 yn ys ye) 24 (LC0 false ⟨#[]⟩ 0) 24
 rw [← hw, ← hb]; clear hw hb
 obtain ⟨c0, c1, c2⟩ := B0.out.c3
 obtain ⟨d0, d1, d2⟩ := B1.out.c3
 have SK : Hid (∀ W, Kept w1 W → (W.cell? ⟨b, 0, none⟩ = some (.bool xn) ∧ W.cell? ⟨b, 1, none⟩ = some (.string xs) ∧ W.cell? ⟨b, 2, none⟩ = some (.int .i64 xe)) ∧ W.cell? ⟨b + 1, 0, none⟩ = some (.bool yn) ∧ W.cell? ⟨b + 1, 1, none⟩ = some (.string ys) ∧ W.cell? ⟨b + 1, 2, none⟩ = some (.int .i64 ye)) := fun W h => ⟨(B0.out.kept h).c3, (B1.out.kept h).c3⟩
 go_wp2_with (go_at_call 106; (with_reducible refine (ALL.out _ _ ?_).mono ?_); (exact Bx.new _ _ _ _ rfl); rintro e w3 ⟨rfl, hk3⟩; have K3 := qh ((Kept.new (Below.refl _ _) _).trans' hk3); clear hk3)
 have K3d := qh (K3.out.trans' (Below.refl _ w3).drew)
 have hS0 := SK.out _ K3d.out
 refine qab (fun W => (W.cell? ⟨b, 0, none⟩ = some (.bool xn) ∧ W.cell? ⟨b, 1, none⟩ = some (.string xs) ∧ W.cell? ⟨b, 2, none⟩ = some (.int .i64 xe)) ∧ W.cell? ⟨b + 1, 0, none⟩ = some (.bool yn) ∧ W.cell? ⟨b + 1, 1, none⟩ = some (.string ys) ∧ W.cell? ⟨b + 1, 2, none⟩ = some (.int .i64 ye)) [6,7] (by kernel_rfl) ?_ (fun hHeld => ?_)
 ·assumption
 refine wS 0 12 ?_
 refine wS 1 13 ?_
 refine oS 2 fun K hK => ?_
 go_simp
 (refine (NEG.out _).mono ?_; rintro e w4 ⟨rfl, hk4⟩; have K4 := qh (K3d.out.trans' hk4); have hS4 := SK.out _ K4.out)
 refine hK.out _ _ ?_ (fun hHeld => ?_)
 ·assumption
 clear hK K
 try simp only [Act.put, tdy]
 refine oS 3 fun K hK => ?_
 go_simp
 (refine (ADD.out _ (K1.out.trans' K4.out)).mono ?_; rintro e w5 ⟨rfl, hk5⟩; have K5 := qh (K4.out.trans' hk5); have hS5 := SK.out _ K5.out)
 refine hK.out _ _ ?_ (fun hHeld => ?_)
 ·assumption
 clear hK K
 try simp only [Act.put, tdy]
 refine wS 4 16 ?_
 refine wS 5 17 ?_
 obtain ⟨e0, e1, e2⟩ := (B2.out.kept K5.out).c3
 obtain ⟨f0, f1, f2⟩ := (B2.out.kept K5.out).f3
 refine eS 6 fun K hK => ?_
 go_simp
 refine hK.out _ _ ?_
 clear hK K
 try simp only [Act.put, tdy]
 refine eS 7 fun K hK => ?_
 go_simp
 refine hK.out _ _ ?_
 clear hK K
 try simp only [Act.put, tdy]
 refine dS ?_ _
 go_wp2_with fail
 exact bodyPost_ret (v := qaf R) (by simp [results, results103, go_sem, e0, e1, e2, qaf]) rfl ⟨rfl, (K1.out.trans' K5.out).qaL (by have := HB.out; omega) _ _ _⟩
theorem qod (p r : Nat) (x y : Int) (k j : Nat) (W : World) (hk : k ≤ 100000000) (hj : j ≤ 100000000) (h : qaq W p x k) (h' : qaq W r y j) :
  Calls prog 139 #[.pointer (some ⟨p, 0, none⟩), .pointer (some ⟨p, 0, none⟩), .pointer (some ⟨r, 0, none⟩)] W fun e w' => e = .returned (.pointer (some ⟨p, 0, none⟩)) ∧ qaq w' p (x * y) (k + j) ∧ W.grownBy w' (some p) := by
 obtain ⟨b, u, hb, hu⟩ := h.box
 exact qmZ p r p b u x y k j W h h' hk hj hb hu
theorem qgQ (x y : DyD) (w : World) (hx : qad x = true) (hy : qad y = true) (hT : T32 w) :
  Calls prog 97 #[.agg #[.bool x.neg, .string x.n, .int .i64 x.e], .agg #[.bool y.neg, .string y.n, .int .i64 y.e]] w fun en w' => en = .returned (qaf (mulS x y)) ∧ Kept w w' := by
 have ALL := qh (qfr x y hx hy)
 have WX := qh (qck x hx)
 have WY := qh (qck y hy)
 have hxe := (qag hx).2.2.2
 have hye := (qag hy).2.2.2
 have MADE : Hid (∀ W p, Kept w W → qaq W p (x.num * y.num) 8194 → Calls prog 133 #[.pointer (some ⟨p, 0, none⟩), .int .i64 (x.e + y.e)] W fun en w' => en = .returned (qaf (mulS x y)) ∧ Kept W w') := fun W p h hp =>
  qha p _ _ 8194 W hp (by omega) (by omega) (by omega) (hT.kept h)
 generalize mulS x y = R at *
 obtain ⟨xn, xs, xe⟩ := x
 obtain ⟨yn, ys, ye⟩ := y
 simp only at ALL WX WY MADE hxe hye ⊢
 generalize (DyD.mk xn xs xe).num = X at *
 generalize (DyD.mk yn ys ye).num = Y at *
 obtain ⟨xe0, xe1⟩ := hxe
 obtain ⟨ye0, ye1⟩ := hye
 have ew : IntKind.i64.wrap (xe + ye) = xe + ye := IntWalk.i64_in _ (by omega)
 clear hx hy hT
 go_enter func97, ntmps97
 go_upto_region 1 with fail
 obtain ⟨b, w1, hw, hb, B0, B1, B2, K1, HB⟩ := qct w (LC0 xn xs xe) 24 (LC0 yn ys ye) 24 (LC0 false ⟨#[]⟩ 0) 24
 rw [← hw, ← hb]; clear hw hb
 obtain ⟨c0, c1, c2⟩ := B0.out.c3
 obtain ⟨d0, d1, d2⟩ := B1.out.c3
 have SK : Hid (∀ W, Kept w1 W → (W.cell? ⟨b, 0, none⟩ = some (.bool xn) ∧ W.cell? ⟨b, 1, none⟩ = some (.string xs) ∧ W.cell? ⟨b, 2, none⟩ = some (.int .i64 xe)) ∧ W.cell? ⟨b + 1, 0, none⟩ = some (.bool yn) ∧ W.cell? ⟨b + 1, 1, none⟩ = some (.string ys) ∧ W.cell? ⟨b + 1, 2, none⟩ = some (.int .i64 ye)) := fun W h => ⟨(B0.out.kept h).c3, (B1.out.kept h).c3⟩
 go_upto_region 3 with (go_at_call 106; (with_reducible refine (ALL.out _ _ ?_).mono ?_); (exact Bx.new _ _ _ _ rfl); rintro e w3 ⟨rfl, hk3⟩; have K3 := qh ((Kept.new (Below.refl _ _) _).trans' hk3); clear hk3; obtain ⟨c0, c1, c2⟩ := (B0.out.kept K3.out).c3)
 go_upto_region 4 with (go_at_call 109; (with_reducible refine (WX.out _).mono ?_); rintro e w4 ⟨p, rfl, hp, ip, hk4⟩)
 have K4 := qh (K3.out.trans' hk4)
 have hp1 := qh (Nat.le_trans K3.out.size hp)
 have IP4 := qh ip
 have K4d := qh (K4.out.trans' (Below.refl _ w4).drew)
 have hS0 := SK.out _ K4d.out
 clear c0 c1 c2 d0 d1 d2 ip hp hk4 K3 ALL WX
 refine qab (fun W => (W.cell? ⟨b, 0, none⟩ = some (.bool xn) ∧ W.cell? ⟨b, 1, none⟩ = some (.string xs) ∧ W.cell? ⟨b, 2, none⟩ = some (.int .i64 xe)) ∧ W.cell? ⟨b + 1, 0, none⟩ = some (.bool yn) ∧ W.cell? ⟨b + 1, 1, none⟩ = some (.string ys) ∧ W.cell? ⟨b + 1, 2, none⟩ = some (.int .i64 ye)) [13,14] (by kernel_rfl) ?_ (fun hHeld => ?_)
 ·assumption
 refine wS 0 15 ?_
 refine wS 1 16 ?_
 refine wS 2 17 ?_
 refine wS 5 20 ?_
 refine wS 6 21 ?_
 refine wS 7 22 ?_
 refine wS 8 23 ?_
 refine wS 9 24 ?_
 refine oS 3 fun K hK => ?_
 go_simp
 (refine (WY.out _).mono ?_; rintro e w5 ⟨q, rfl, hq, iq, hk5⟩; have K5 := qh (K4d.out.trans' hk5); have hS5 := SK.out _ K5.out; have IP5 := qh (IP4.out.kept (Kept.trans' (Below.refl _ w4).drew hk5)); have IQ5 := qh iq; clear iq hk5; have MUL : Hid (Calls prog 139 #[.pointer (some ⟨p, 0, none⟩), .pointer (some ⟨p, 0, none⟩), .pointer (some ⟨q, 0, none⟩)] w5 fun e w' => e = .returned (.pointer (some ⟨p, 0, none⟩)) ∧ qaq w' p (X * Y) (4097 + 4097) ∧ w5.grownBy w' (some p)) := qod p q X Y 4097 4097 w5 (by omega) (by omega) IP5.out IQ5.out)
 refine hK.out _ _ ?_ (fun hHeld => ?_)
 ·assumption
 clear hK K
 try simp only [Act.put, tdy]
 refine oS 4 fun K hK => ?_
 go_simp
 (refine MUL.out.mono ?_; rintro e w6 ⟨rfl, ip, hg6⟩; have K6 := qh (qaB K5.out hp1.out hg6); have hS6 := SK.out _ K6.out; have IP6 := qh (ip.more (j := 8194) (by omega)); clear hg6 ip)
 refine hK.out _ _ ?_ (fun hHeld => ?_)
 ·assumption
 clear hK K
 try simp only [Act.put, tdy]
 refine oS 10 fun K hK => ?_
 go_simp
 (refine (MADE.out _ _ (K1.out.trans' K6.out) IP6.out).mono ?_; rintro e w7 ⟨rfl, hk7⟩; have K7 := qh (K6.out.trans' hk7); have hS7 := SK.out _ K7.out)
 refine hK.out _ _ ?_ (fun hHeld => ?_)
 ·assumption
 clear hK K
 try simp only [Act.put, tdy]
 refine wS 11 26 ?_
 refine wS 12 27 ?_
 obtain ⟨e0, e1, e2⟩ := (B2.out.kept K7.out).c3
 obtain ⟨f0, f1, f2⟩ := (B2.out.kept K7.out).f3
 refine eS 13 fun K hK => ?_
 go_simp
 refine hK.out _ _ ?_
 clear hK K
 try simp only [Act.put, tdy]
 refine eS 14 fun K hK => ?_
 go_simp
 refine hK.out _ _ ?_
 clear hK K
 try simp only [Act.put, tdy]
 refine dS ?_ _
 go_wp2_with fail
 exact bodyPost_ret (v := qaf R) (by simp [results, results97, go_sem, e0, e1, e2, qaf]) rfl ⟨rfl, (K1.out.trans' K7.out).qaL (by have := HB.out; omega) _ _ _⟩
end
end Go.Proofs.YtfdnledkcongaaaGreatDoor
