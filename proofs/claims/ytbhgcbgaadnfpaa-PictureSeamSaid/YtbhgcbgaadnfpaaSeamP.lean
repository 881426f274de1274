/- No seam, plainly: the tiles put together have the sheet's picture; what is cut out at a tile's rectangle is the tile's picture. -/
import Derived.Test.YtbhgcbgaadnfpaaSeamL
import Derived.Test.YtbhgcbgaadnfpaaOf
namespace Go.Proofs.Ytbhgcbgaadnfpaa
open Go.RowKit

theorem cropG_flat (a c s : Nat) (g : List UInt8) (f : Nat) : ∀ k, cropG a c s g f k = (List.range k).flatMap fun i => ((rowOf a g (f + i)).drop c).take s
  | 0 => rfl
  | k + 1 => by rw [cropG, cropG_flat a c s g f k, List.range_succ, List.flatMap_append]; simp
theorem crop_at {a c s d f t : Nat} {g : List UInt8} (hl : g.length = a * d) (hc : c + s ≤ a) (ht : f + t ≤ d) :
    (cropG a c s g f t).length = t * s ∧ ∀ x y, x < s → y < t → (cropG a c s g f t)[y * s + x]? = g[(f + y) * a + (c + x)]? := by
  have pl : ∀ i, i < t → (((rowOf a g (f + i)).drop c).take s).length = s := fun i hi => piece_length a c s g (f + i) d hl (by omega) hc
  have hf := flat_sum (fun i => ((rowOf a g (f + i)).drop c).take s) (fun i => i * s) (by simp) t (fun k hk => by rw [pl k hk, Nat.add_mul, Nat.one_mul])
  rw [cropG_flat]
  refine ⟨hf.1, fun x y hx hy => ?_⟩
  rw [hf.2 y x hy (by rw [pl y hy]; exact hx), List.getElem?_take_of_lt hx, List.getElem?_drop, rowOf_at _ _ _ _ (by omega)]

/-- The tiles put together, as one tile. -/
def joinT (g : GrD) (L : List TilD) : TilD := ⟨0, 0, g.across, g.down, joinC g L L.length 0⟩
structure SeamAt (g : GrD) (L : List TilD) : Prop where
  gI : gridI g = 0
  size : sizeB g.across g.down = true
  len : (L.length : Int) = gridA g * gridD g
  each : ∀ (k : Nat) (T : TilD), L[k]? = some T → T.a = rectW g k ∧ T.d = rectH g k ∧ (T.c.length : Int) = rectW g k * rectH g k
theorem SeamAt.rect {g : GrD} {L : List TilD} (h : SeamAt g L) {k : Nat} (hk : k < L.length) : 1 ≤ rectW g k ∧ 1 ≤ rectH g k ∧ 0 ≤ rectX g k ∧ rectX g k + rectW g k ≤ g.across ∧ 0 ≤ rectY g k ∧ rectY g k + rectH g k ≤ g.down := by
  obtain ⟨hB, hm⟩ := gridI_ok h.gI
  have hL := h.len
  have hA := hB.gA.1
  obtain ⟨r1, r2, r3, r4⟩ := rect_in hB (n := (k : Int)) (by omega) (by omega)
  have hx1 : rectX g k + 1 ≤ g.across := piece_pos hB.w0 (Int.emod_lt_of_pos (k : Int) (show 0 < gridA g by omega))
  have hq : (k : Int) / gridA g < gridD g := Int.ediv_lt_of_lt_mul (by omega) (by rw [Int.mul_comm]; omega)
  have hy1 : rectY g k + 1 ≤ g.down := piece_pos hB.h0 hq
  have w1 := hB.w0
  have h1 := hB.h0
  exact ⟨by unfold rectW; omega, by unfold rectH; omega, r1, r2, r3, r4⟩
theorem SeamAt.may {g : GrD} {L : List TilD} (h : SeamAt g L) {k : Nat} {T : TilD} (hT : L[k]? = some T) : mayB T.a T.d T.c.length = true := by
  obtain ⟨e1, e2, e3⟩ := h.each k T hT
  obtain ⟨r1, r2, r3, r4, r5, r6⟩ := h.rect (List.getElem?_eq_some_iff.1 hT).1
  have hz := sizeB_bounds h.size
  have hmul : rectW g k * rectH g k ≤ g.across * g.down := Int.mul_le_mul (by omega) (by omega) (by omega) (by omega)
  rw [e1, e2]
  rw [← right_may]
  simp [rightB]
  omega
theorem SeamAt.pics {g : GrD} {L : List TilD} (h : SeamAt g L) : allE (L.map TilD.pic) = 0 ∧ ((L.map TilD.pic).length : Int) = gridA g * gridD g ∧ fitsB g (L.map TilD.pic) = true := by
  refine ⟨allE_all fun k p hp => ?_, by rw [List.length_map]; exact h.len, List.all_eq_true.2 fun k hk => ?_⟩
  · rw [List.getElem?_map] at hp
    cases hT : L[k]? with
    | none => rw [hT] at hp; cases hp
    | some T =>
      rw [hT] at hp
      obtain rfl : T.pic = p := by simpa using hp
      have := h.may hT
      simpa [TilD.pic, shades] using this
  · have hk : k < L.length := by simpa using hk
    obtain ⟨T, hT⟩ : ∃ T, L[k]? = some T := ⟨_, List.getElem?_eq_getElem hk⟩
    obtain ⟨e1, e2, -⟩ := h.each k T hT
    simp [fitB, hT, TilD.pic, e1, e2]
theorem atN_nonneg {g : GrD} (hB : GrBnd g) {x y : Int} (x0 : 0 ≤ x) (y0 : 0 ≤ y) : 0 ≤ atN g x y := by
  have h1 := hB.w0
  have h2 := hB.h0
  have h3 := hB.gA.1
  have p1 := Int.ediv_nonneg y0 (show 0 ≤ g.high by omega)
  have p2 := Int.ediv_nonneg x0 (show 0 ≤ g.wide by omega)
  have p3 := Int.mul_nonneg p1 (show 0 ≤ gridA g by omega)
  unfold atN
  omega
theorem SeamAt.join {g : GrD} {L : List TilD} (h : SeamAt g L) : sheetE g (L.map TilD.pic) = 0 ∧ sheetP g (L.map TilD.pic) = (joinT g L).pic ∧ tileB 0 0 g.across g.down (joinC g L L.length 0).length = true := by
  obtain ⟨hB, hm⟩ := gridI_ok h.gI
  have hz := sizeB_bounds h.size
  obtain ⟨p1, p2, p3⟩ := h.pics
  obtain ⟨s1, s2, s3, s4, s5⟩ := seam_sheet h.gI p1 p2 p3 h.size
  have hl : (joinC g L L.length 0).length = g.down.toNat * g.across.toNat := by
    rw [joinC_length, Int.toNat_mul (by omega) (by omega), Nat.mul_comm]
  refine ⟨s1, ?_, ?_⟩
  · have e : (sheetP g (L.map TilD.pic)).g = (joinT g L).pic.g := by
      refine same_pix (a := g.across.toNat) (d := g.down.toNat) (by omega) s4 (by simp [joinT, TilD.pic, shades, hl]) fun x y hx hy => ?_
      obtain ⟨p, m, hp, hat, e1⟩ := s5 x y hx hy
      rw [e1]
      have hml : m < L.length := by have := (List.getElem?_eq_some_iff.1 hp).1; simpa using this
      obtain ⟨T, hT⟩ : ∃ T, L[m]? = some T := ⟨_, List.getElem?_eq_getElem hml⟩
      have hpT : p = T.pic := by
        rw [List.getElem?_map, hT] at hp
        simpa using hp.symm
      have hi : y * g.across.toNat + x < (g.across * g.down).toNat := by
        have h5 : (y + 1) * g.across.toNat ≤ g.down.toNat * g.across.toNat := Nat.mul_le_mul_right _ hy
        rw [Nat.add_mul] at h5
        have e9 : (g.across * g.down).toNat = g.down.toNat * g.across.toNat := by rw [Int.toNat_mul (by omega) (by omega), Nat.mul_comm]
        rw [e9]
        omega
      have eA : ((g.across.toNat : Nat) : Int) = g.across := Int.toNat_of_nonneg (by omega)
      have ci : ((y * g.across.toNat + x : Nat) : Int) = g.across * (y : Int) + (x : Int) := by
        rw [Int.natCast_add, Int.natCast_mul, eA, Int.mul_comm]
      have hxm : ((y * g.across.toNat + x : Nat) : Int) % g.across = x := by
        rw [ci, Int.mul_add_emod_self_left]; exact Int.emod_eq_of_lt (by omega) (by omega)
      have hyd : ((y * g.across.toNat + x : Nat) : Int) / g.across = y := by
        rw [ci, Int.mul_add_ediv_left _ _ (by omega), Int.ediv_eq_zero_of_lt (by omega) (by omega)]; omega
      have hin := (in_rect hB x y m (by omega) (by omega) (by omega) (by omega)).2 hat.symm
      obtain ⟨f1, f2, f3⟩ := h.each m T hT
      show p.g[_]? = ((joinC g L L.length 0).map shadeU)[_]?
      rw [hpT, List.getElem?_map, joinC_at, if_pos hi]
      unfold pickC
      simp only [hxm, hyd, ← hat]
      rw [if_pos (Or.inl (by omega)), Int.toNat_natCast, hT]
      have hlt : ((y - rectY g m) * rectW g m + (x - rectX g m)).toNat < T.c.length := by
        have h1 : 0 ≤ (y - rectY g m) * rectW g m := Int.mul_nonneg (by omega) (by omega)
        have h2 : (y - rectY g m + 1) * rectW g m ≤ rectH g m * rectW g m := Int.mul_le_mul_of_nonneg_right (by omega) (by omega)
        rw [Int.add_mul, Int.mul_comm (rectH g m)] at h2
        omega
      show (T.c.map shadeU)[_]? = _
      rw [List.getElem?_map, Option.bind_some, List.getElem?_eq_getElem hlt]
      rfl
    cases hp : sheetP g (L.map TilD.pic) with
    | mk a d gg =>
      rw [hp] at s2 s3 e
      simp only at s2 s3 e
      rw [s2, s3, e]
      rfl
  · have e : (((joinC g L L.length 0).length : Nat) : Int) = g.across * g.down := by
      rw [hl, Int.natCast_mul, Int.toNat_of_nonneg (by omega), Int.toNat_of_nonneg (by omega), Int.mul_comm]
    simp [tileB, rightB]
    omega
theorem SeamAt.crop {g : GrD} {L : List TilD} (h : SeamAt g L) {k : Nat} {T : TilD} (hT : L[k]? = some T) :
    cropE (joinT g L).pic (rectX g k) (rectY g k) (rectW g k) (rectH g k) = 0 ∧ cropP (joinT g L).pic (rectX g k) (rectY g k) (rectW g k) (rectH g k) = T.pic := by
  obtain ⟨hB, hm⟩ := gridI_ok h.gI
  have hz := sizeB_bounds h.size
  obtain ⟨p1, p2, p3⟩ := h.pics
  obtain ⟨s1, s2, s3, s4, s5⟩ := seam_sheet h.gI p1 p2 p3 h.size
  obtain ⟨-, j2, j3⟩ := h.join
  obtain ⟨r1, r2, r3, r4, r5, r6⟩ := h.rect (List.getElem?_eq_some_iff.1 hT).1
  obtain ⟨f1, f2, f3⟩ := h.each k T hT
  have hmay : (joinT g L).pic.may = true := by
    have := tileB_may j3
    show mayB _ _ _ = true
    simpa [joinT, TilD.pic, shades] using this
  refine ⟨?_, ?_⟩
  · unfold cropE
    rw [if_pos hmay, if_pos ((cutB_iff _ _ _ _ _ _).2 ⟨r1, r2, r3, r5, by show rectW g k ≤ g.across; omega, by show rectH g k ≤ g.down; omega, by show _ ≤ g.across - _; omega, by show _ ≤ g.down - _; omega⟩)]
  · have e : cropG g.across.toNat (rectX g k).toNat (rectW g k).toNat (joinT g L).pic.g (rectY g k).toNat (rectH g k).toNat = T.pic.g := by
      rw [← j2]
      have hc := crop_at (a := g.across.toNat) (c := (rectX g k).toNat) (s := (rectW g k).toNat) (d := g.down.toNat) (f := (rectY g k).toNat) (t := (rectH g k).toNat) (g := (sheetP g (L.map TilD.pic)).g) (by rw [s4, Nat.mul_comm]) (by omega) (by omega)
      have hTl : T.pic.g.length = (rectH g k).toNat * (rectW g k).toNat := by
        have : ((T.pic.g.length : Nat) : Int) = rectW g k * rectH g k := by simpa [TilD.pic, shades] using f3
        have e9 : (((rectH g k).toNat * (rectW g k).toNat : Nat) : Int) = rectW g k * rectH g k := by
          rw [Int.natCast_mul, Int.toNat_of_nonneg (by omega), Int.toNat_of_nonneg (by omega), Int.mul_comm]
        omega
      refine same_pix (a := (rectW g k).toNat) (d := (rectH g k).toNat) (by omega) hc.1 hTl fun x y hx hy => ?_
      rw [hc.2 x y hx hy]
      obtain ⟨p, m, hp, hat, e1⟩ := s5 ((rectX g k).toNat + x) ((rectY g k).toNat + y) (by omega) (by omega)
      rw [e1]
      have hmk : (m : Int) = k := by
        rw [hat]
        exact (in_rect hB _ _ k (by omega) (by omega) (by omega) (by omega)).1 (by omega)
      have hmk : m = k := by omega
      subst hmk
      have hpT : p = T.pic := by
        rw [List.getElem?_map, hT] at hp
        simpa using hp.symm
      rw [hpT]
      congr 1
      have e2 : ((((rectY g m).toNat + y : Nat) : Int) - rectY g m) = (y : Int) := by omega
      have e3 : ((((rectX g m).toNat + x : Nat) : Int) - rectX g m) = (x : Int) := by omega
      rw [e2, e3, show rectW g m = ((rectW g m).toNat : Int) from (Int.toNat_of_nonneg (by omega)).symm, ← Int.natCast_mul, ← Int.natCast_add, Int.toNat_natCast, Int.toNat_natCast]
    show (⟨rectW g k, rectH g k, _⟩ : PicD) = ⟨T.a, T.d, _⟩
    rw [f1, f2]
    congr 1
end Go.Proofs.Ytbhgcbgaadnfpaa
