/- What the law PictureSeam calls behind its first range: Join, Of, Sheet; and tile.Rects as an iterator that tells in order. -/
import Derived.Test.YtbhgcbgaadnfpaaSeamR
import Derived.Test.YtbhgcbgaadnfpaaSheetA
import Derived.Test.YtbhgcbgaadnfpaaRangeO
namespace Go.Proofs.Ytbhgcbgaadnfpaa
open Go.RowKit Go.Shelf

theorem rects_offersK (Kp : World → World → Prop) (n : Nat) (hn : 1 ≤ n) (Bs n₀ : Nat) (g : GrD) (hK1 : ∀ X Y, Kp X Y → GBox X Bs g → GBox Y Bs g) (hK2 : ∀ X Y, Kp X Y → X.heap.size ≤ Y.heap.size) (hg : g.ok) (w : World) (hb : Bs < n₀) (hn₀ : n₀ ≤ w.heap.size) (hB : GBox w Bs g) :
    SeqOffers Fence.wide n Try.prog 60 #[.pointer (some ⟨Bs, 0, none⟩)] (encR g) Kp (fun pre k _ => k = pre.length) (fun ys => ys = List.range (rectsN g)) (fun pre => ∃ k, k ≤ rectsN g ∧ pre = List.range k) (rectsN g) w := fun l J Jx W hW hJ _ hY h0 =>
  rects1_inK Kp n hn l Bs n₀ g hK1 hK2 hg hb J Jx _ hJ (fun k W1 hk hj => hY (List.range k) k W1 hj (by simp) (by simp; exact hk)) W (Nat.le_trans hn₀ hW.size) (hB.below (hW.mono hn₀) hb) h0

theorem pickC_ok {g : GrD} {L : List TilD} (h : ∀ T ∈ L, ∀ x ∈ T.c, x.ok) (n k : Int) (i : Nat) : (pickC g L n k i).ok := by
  have h0 : wit0.ok := by simp [Wit.ok, wit0]
  unfold pickC
  simp only
  split
  · cases hT : L[(atN g ((i : Int) % g.across) ((i : Int) / g.across)).toNat]? with
    | none => simpa using h0
    | some T =>
      simp only [Option.bind_some]
      cases hx : T.c[(((i : Int) / g.across - rectY g (atN g ((i : Int) % g.across) ((i : Int) / g.across))) * rectW g (atN g ((i : Int) % g.across) ((i : Int) / g.across)) + ((i : Int) % g.across - rectX g (atN g ((i : Int) % g.across) ((i : Int) / g.across)))).toNat]? with
      | none => simpa using h0
      | some x => exact h T (List.mem_of_getElem? hT) x (List.mem_of_getElem? hx)
  · exact h0
theorem joinC_ok {g : GrD} {L : List TilD} (h : ∀ T ∈ L, ∀ x ∈ T.c, x.ok) (n k : Int) : ∀ x ∈ joinC g L n k, x.ok := fun x hx => by
  obtain ⟨i, -, rfl⟩ := List.mem_map.1 hx
  exact pickC_ok h n k i

theorem sheet_to (g : GrD) (A : Option Addr) (c : Nat) (ps : List PicD) (P : PicD) (w : World) (hg : g.ok) (hp : Pics w A ps) (hl : ps.length ≤ 1000000) (hcL : ps.length ≤ c) (hE : sheetE g ps = 0) (hP : sheetP g ps = P) :
    Calls Try.prog 40 #[.agg #[.bool g.re.neg, .string g.re.n, .int .i64 g.re.e, .bool g.im.neg, .string g.im.n, .int .i64 g.im.e, .int .i64 g.exp, .int .i64 g.across, .int .i64 g.down, .int .i64 g.wide, .int .i64 g.high], .slice A ps.length c] w
      fun e w' => ∃ v, e = .returned (.tuple #[.agg #[.int .i64 P.a, .int .i64 P.d, v], .int .i64 0]) ∧ Own w' w.heap.size 1 v P.g.length (bytesV P.g) ∧ Kept w w' :=
  (sheet_any g A c ps w hg hp hl hcL).mono fun e w' hq => by
    rw [hE, hP] at hq
    unfold PutPost at hq
    rwa [if_pos rfl] at hq
section
variable {g : GrD} {W : World} {base N M : Nat} {vt vp : Value} {TS : List TilH} {PS : List PicH}
theorem seam_join (h : SeamI g W base vt vp TS PS) (hg : g.ok) (hI : gridI g = 0) (hB : GrBnd g) (h2 : g.across * g.down ≤ 4194304) (hN : TS.length = N) (hND : (N : Int) = gridA g * gridD g) (hM : M = (g.across * g.down).toNat) :
    Calls Try.prog 44 #[.agg #[.bool g.re.neg, .string g.re.n, .int .i64 g.re.e, .bool g.im.neg, .string g.im.n, .int .i64 g.im.e, .int .i64 g.exp, .int .i64 g.across, .int .i64 g.down, .int .i64 g.wide, .int .i64 g.high], vt] W
      fun e w' => ∃ A' c', e = .returned (.tuple #[.agg #[.int .i64 0, .int .i64 0, .int .i64 g.across, .int .i64 g.down, .slice A' M c'], .int .i64 0]) ∧ TilAt w' (joinT g (TS.map (·.T))) A' M c' ∧ Kept W w' := by
  obtain ⟨At, ct, hv, hc, hT⟩ := h.tils
  rw [hv, hN]
  obtain ⟨a0, a1, d0, d1, -, -, -, -⟩ := hB
  have hm0 : 0 ≤ g.across * g.down := Int.mul_nonneg (by omega) (by omega)
  refine (join_good g At ct N TS W hg hI h2 hT hN hND (by omega) h.each).mono ?_
  rintro e w' ⟨v, rfl, ho, hk⟩
  rw [← hM] at ho
  obtain ⟨A', c', rfl, hc1, hc2, hr, -, -⟩ := ho.form
  have hl : (joinT g (TS.map (·.T))).c = joinC g (TS.map (·.T)) N 0 := by simp [joinT, hN]
  refine ⟨A', c', rfl, ⟨by rw [hl, joinC_length, hM], hc1, by omega, by rw [hl]; exact hr, ?_, by show _ ≤ (0 : Int); omega, by show (0 : Int) ≤ _; omega, by show _ ≤ (0 : Int); omega, by show (0 : Int) ≤ _; omega, by show _ ≤ g.across; omega, by show g.across ≤ _; omega, by show _ ≤ g.down; omega, by show g.down ≤ _; omega⟩, hk⟩
  rw [hl]
  refine joinC_ok (fun T hT x hx => ?_) _ _
  obtain ⟨t, ht, rfl⟩ := List.mem_map.1 hT
  exact (h.ta t ht).1.ok x hx
theorem seam_of {A : Option Addr} {c : Nat} {L : List TilD} (hS : SeamAt g L) (hB : GrBnd g) (hT : TilAt W (joinT g L) A M c) :
    Calls Try.prog 37 #[.agg #[.int .i64 0, .int .i64 0, .int .i64 g.across, .int .i64 g.down, .slice A M c]] W
      fun e w' => ∃ A' c', e = .returned (.tuple #[.agg #[.int .i64 g.across, .int .i64 g.down, .slice A' M c'], .int .i64 0]) ∧ PicAt w' (joinT g L).pic A' M c' ∧ Kept W w' := by
  have hb := hS.join.2.2
  obtain ⟨a0, a1, d0, d1, -, -, -, -⟩ := hB
  have hl : M = (joinC g L L.length 0).length := hT.len.symm
  refine (of_ok (joinT g L) A M c W hT (by rw [hl]; exact hb)).mono ?_
  rintro e w' ⟨A', c', rfl, ho, hk⟩
  obtain ⟨A9, c9, hv, hc1, hc2, -, -, -⟩ := ho.form
  injection hv with h1 h2 h3
  have hm := hT.max
  have q1 : (joinT g L).pic.g.length = M := by
    show ((joinC g L L.length 0).map shadeU).length = M
    rw [List.length_map, hl]
  have q2 : M ≤ c' := by omega
  have q3 : -9223372036854775808 ≤ g.across := by omega
  have q4 : g.across ≤ 9223372036854775807 := by omega
  have q5 : -9223372036854775808 ≤ g.down := by omega
  have q6 : g.down ≤ 9223372036854775807 := by omega
  exact ⟨A', c', rfl, ⟨q1, q2, hm, ho.row, q3, q4, q5, q6⟩, hk⟩
theorem seam_sheetc (h : SeamI g W base vt vp TS PS) (hg : g.ok) (hB : GrBnd g) (hS : SeamAt g (TS.map (·.T))) (hN : TS.length ≤ 65536) (hM : (joinT g (TS.map (·.T))).c.length = M) :
    Calls Try.prog 40 #[.agg #[.bool g.re.neg, .string g.re.n, .int .i64 g.re.e, .bool g.im.neg, .string g.im.n, .int .i64 g.im.e, .int .i64 g.exp, .int .i64 g.across, .int .i64 g.down, .int .i64 g.wide, .int .i64 g.high], vp] W
      fun e w' => ∃ A' c', e = .returned (.tuple #[.agg #[.int .i64 g.across, .int .i64 g.down, .slice A' M c'], .int .i64 0]) ∧ PicAt w' (joinT g (TS.map (·.T))).pic A' M c' ∧ Kept W w' := by
  obtain ⟨Ap, cp, hv, hc, hP⟩ := h.pics
  have hL : (TS.map (·.T)).map TilD.pic = PS.map (·.P) := by rw [h.pic, List.map_map]; rfl
  have hlen : PS.length = (PS.map (·.P)).length := by rw [List.length_map]
  have hpl : PS.length = TS.length := by have := congrArg List.length h.pic; simpa using this
  obtain ⟨j1, j2, -⟩ := hS.join
  rw [hL] at j1 j2
  obtain ⟨a0, a1, d0, d1, -, -, -, -⟩ := hB
  rw [hv, hlen]
  have q0 : (PS.map (·.P)).length ≤ 1000000 := by omega
  have q1 : (PS.map (·.P)).length ≤ cp := by omega
  obtain ⟨ps, hps⟩ : ∃ ps, ps = PS.map (·.P) := ⟨_, rfl⟩
  obtain ⟨L, hLe⟩ : ∃ L, L = TS.map (·.T) := ⟨_, rfl⟩
  rw [← hps] at hP q0 q1 j1 j2 ⊢
  rw [← hLe] at j2 hM ⊢
  clear hL hlen hps
  refine (sheet_to g Ap cp ps (joinT g L).pic W hg hP q0 q1 j1 j2).mono ?_
  rintro e w' ⟨v, he, ho, hk⟩
  have hg1 : (joinT g L).pic.g.length = M := by
    show ((joinC g L L.length 0).map shadeU).length = M
    rw [List.length_map]; exact hM
  rw [hg1] at ho
  obtain ⟨A', c', hv', hc1, hc2, hr, -, -⟩ := ho.form
  subst hv'
  have q2 : M ≤ 9223372036854775807 := by unfold maxLen at hc2; omega
  have q3 : -9223372036854775808 ≤ g.across := by omega
  have q4 : g.across ≤ 9223372036854775807 := by omega
  have q5 : -9223372036854775808 ≤ g.down := by omega
  have q6 : g.down ≤ 9223372036854775807 := by omega
  exact ⟨A', c', he, ⟨hg1, hc1, q2, hr, q3, q4, q5, q6⟩, hk⟩
end
end Go.Proofs.Ytbhgcbgaadnfpaa
