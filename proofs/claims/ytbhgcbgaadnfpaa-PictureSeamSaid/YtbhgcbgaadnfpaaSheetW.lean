/- picture.Sheet, walked. -/
import Derived.Test.YtbhgcbgaadnfpaaRects
import Derived.Test.YtbhgcbgaadnfpaaQuietR
import Derived.Test.YtbhgcbgaadnfpaaRowsX
import Derived.Test.YtbhgcbgaadnfpaaPBox
import Derived.RangeFuncNested
namespace Go.Proofs.Ytbhgcbgaadnfpaa
open Go.RowKit Go.Shelf
attribute [local go_sem] Oper.semAt_some

/-- Has picture k the size of the grid's rectangle k? -/
def fitB (g : GrD) (ps : List PicD) (k : Nat) : Bool := match ps[k]? with
  | some p => p.a == rectW g k && p.d == rectH g k
  | none => false
/-- Do the pictures have the sizes of the grid's rectangles? -/
def fitsB (g : GrD) (ps : List PicD) : Bool := (List.range ps.length).all (fitB g ps)
/-- The first error among rows put beside each other. -/
def rowsE : List (List PicD) → Int
  | [] => 0
  | q :: r => if besideE q ≠ 0 then besideE q else rowsE r
/-- The pictures, row by row. -/
def sheetRows (g : GrD) (ps : List PicD) : List (List PicD) := (List.range (gridD g).toNat).map fun r => (ps.drop (r * (gridA g).toNat)).take (gridA g).toNat
/-- picture.Sheet's error. -/
def sheetE (g : GrD) (ps : List PicD) : Int :=
  if gridI g ≠ 0 then gridI g else if allE ps ≠ 0 then allE ps else if (ps.length : Int) ≠ gridA g * gridD g then 291
  else if fitsB g ps = false then 291 else if sizeB g.across g.down = false then 4
  else if rowsE (sheetRows g ps) ≠ 0 then rowsE (sheetRows g ps) else belowE ((sheetRows g ps).map besideP)
/-- picture.Sheet's picture. -/
def sheetP (g : GrD) (ps : List PicD) : PicD := belowP ((sheetRows g ps).map besideP)

theorem keepsFrom_drewN' {B : Nat} {W W' : World} {n : Nat} (h : KeepsFrom B (W.drewN n) W') : KeepsFrom B W W' := ⟨h.size, h.same⟩
theorem keepsFrom_ret (B : Nat) (W : World) (b b' nq : Nat) (v : Value) : KeepsFrom B W ((World.store3 (W.drewN nq) b (.int .i64 0) (.int .i64 0) (.slice none 0 0)).setCell ⟨b', 0, none⟩ v) :=
  keepsFrom_drewN' (((((KeepsOthers.setCell _ _ _).from B).trans ((KeepsOthers.setCell _ _ _).from B)).trans ((KeepsOthers.setCell _ _ _).from B)).trans ((KeepsOthers.setCell _ _ _).from B))
/-- What the boxes of the results hold where an error goes out. -/
theorem ret_sheet {w W : World} {b : Nat} (E : Int) (rb : PBox W b (.int .i64 0) (.int .i64 0) (.slice none 0 0)) (e0 : W.cell? ⟨b + 1, 0, none⟩ = some (.int .i64 0)) (hk : Kept w W) (hb : w.heap.size ≤ b) (nq : Nat) :
    PBox ((World.store3 (W.drewN nq) b (.int .i64 0) (.int .i64 0) (.slice none 0 0)).setCell ⟨b + 1, 0, none⟩ (.int .i64 E)) b (.int .i64 0) (.int .i64 0) (.slice none 0 0) ∧
    ((World.store3 (W.drewN nq) b (.int .i64 0) (.int .i64 0) (.slice none 0 0)).setCell ⟨b + 1, 0, none⟩ (.int .i64 E)).cell? ⟨b + 1, 0, none⟩ = some (.int .i64 E) ∧
    Below w.heap.size w ((World.store3 (W.drewN nq) b (.int .i64 0) (.int .i64 0) (.slice none 0 0)).setCell ⟨b + 1, 0, none⟩ (.int .i64 E)) := by
  have r1 : PBox (W.drewN nq) b (.int .i64 0) (.int .i64 0) (.slice none 0 0) := ⟨rb.c0, rb.c1, rb.c2, rb.f0, rb.f1, rb.f2⟩
  have r2 := r1.stored (.int .i64 0) (.int .i64 0) (.slice none 0 0)
  refine ⟨⟨?_, ?_, ?_, ?_, ?_, ?_⟩, ?_, ?_⟩
  · rw [World.cell?_setCell_other _ _ _ _ (by simp)]; exact r2.c0
  · rw [World.cell?_setCell_other _ _ _ _ (by simp)]; exact r2.c1
  · rw [World.cell?_setCell_other _ _ _ _ (by simp)]; exact r2.c2
  · rw [World.frozen?_setCell]; exact r2.f0
  · rw [World.frozen?_setCell]; exact r2.f1
  · rw [World.frozen?_setCell]; exact r2.f2
  · refine World.cell?_setCell_same' _ _ _ ?_
    rw [(cell_store3 (W.drewN nq) b _ _ _ (b + 1) 0 (by omega)).1, show (W.drewN nq).cell? ⟨b + 1, 0, none⟩ = W.cell? ⟨b + 1, 0, none⟩ from rfl, e0]
    rfl
  · have hk : Below w.heap.size w W := hk
    exact ((((drewN_below hk nq).setCell (p := ⟨b, 0, none⟩) hb _).setCell (p := ⟨b, 1, none⟩) hb _).setCell (p := ⟨b, 2, none⟩) hb _).setCell (p := ⟨b + 1, 0, none⟩) (Nat.le_succ_of_le hb) _

theorem rowsE_zero : ∀ {l : List (List PicD)}, (∀ q ∈ l, besideE q = 0) → rowsE l = 0
  | [], _ => rfl
  | q :: r, h => by unfold rowsE; rw [if_neg (by simp [h q (by simp)])]; exact rowsE_zero fun q hq => h q (by simp [hq])
theorem rowsE_at : ∀ {l : List (List PicD)} {k : Nat} {q : List PicD}, (∀ q ∈ l.take k, besideE q = 0) → l[k]? = some q → besideE q ≠ 0 → rowsE l = besideE q
  | [], k, q, _, h, _ => by simp at h
  | x :: l, 0, q, _, h, hq => by
    have h : x = q := by simpa using h
    subst h
    unfold rowsE
    rw [if_pos hq]
  | x :: l, k + 1, q, hz, h, hq => by
    unfold rowsE
    rw [if_neg (by simp [hz x (by simp)])]
    exact rowsE_at (k := k) (fun y hy => hz y (by rw [List.take_succ_cons]; exact List.mem_cons_of_mem _ hy)) (by simpa using h) hq
/-- What lies behind the last stores and the turn of the block of deferred calls. -/
theorem sheet_out {w W : World} {b D : Nat} {x0 y0 z0 e0 : Value} (rb : PBox W b x0 y0 z0) (he : W.cell? ⟨b + 1, 0, none⟩ = some e0) (hk : Kept w W) (hb : w.heap.size ≤ b) (hD : w.heap.size ≤ D) (hK : W.heap[D]? = some (.deferred (some []))) (x y z e : Value) :
    ((World.store3 W b x y z).setCell ⟨b + 1, 0, none⟩ e).heap[D]? = some (.deferred (some [])) ∧
    ∃ W8, W8 = ((World.store3 W b x y z).setCell ⟨b + 1, 0, none⟩ e).putObj D (.deferred none) ∧ W8.cell? ⟨b, 0, none⟩ = some x ∧ W8.cell? ⟨b, 1, none⟩ = some y ∧ W8.cell? ⟨b, 2, none⟩ = some z ∧ W8.cell? ⟨b + 1, 0, none⟩ = some e ∧ Kept w W8 ∧
      ∀ base v n xs, Own W base 1 v n xs → (∀ k, v.ownBlock = some k → k ≠ b ∧ k ≠ b + 1 ∧ k ≠ D) → Own W8 base 1 v n xs := by
  have r2 := rb.stored x y z
  have h7 : ((World.store3 W b x y z).setCell ⟨b + 1, 0, none⟩ e).heap[D]? = some (.deferred (some [])) :=
    (((((KeepsOthers.setCell W ⟨b, 0, none⟩ x).from D).trans ((KeepsOthers.setCell _ ⟨b, 1, none⟩ y).from D)).trans ((KeepsOthers.setCell _ ⟨b, 2, none⟩ z).from D)).trans ((KeepsOthers.setCell _ ⟨b + 1, 0, none⟩ e).from D)).same D _ (Nat.le_refl _) hK rfl
  have hr : ∀ r, some D = some r → ∃ o : Obj, ((World.store3 W b x y z).setCell ⟨b + 1, 0, none⟩ e).heap[r]? = some o ∧ o.isCells = false := fun r e => by cases e; exact ⟨_, h7, rfl⟩
  refine ⟨h7, _, rfl, ?_, ?_, ?_, ?_, ?_, ?_⟩
  · refine cell_kept ?_ (grownBy_putObj' _ D (.deferred none)) hr
    rw [World.cell?_setCell_other _ _ _ _ (by simp)]; exact r2.c0
  · refine cell_kept ?_ (grownBy_putObj' _ D (.deferred none)) hr
    rw [World.cell?_setCell_other _ _ _ _ (by simp)]; exact r2.c1
  · refine cell_kept ?_ (grownBy_putObj' _ D (.deferred none)) hr
    rw [World.cell?_setCell_other _ _ _ _ (by simp)]; exact r2.c2
  · refine cell_kept ?_ (grownBy_putObj' _ D (.deferred none)) hr
    refine World.cell?_setCell_same' _ _ _ ?_
    rw [(cell_store3 W b x y z (b + 1) 0 (by omega)).1, he]
    rfl
  · have hk : Below w.heap.size w W := hk
    exact (((((hk.setCell (p := ⟨b, 0, none⟩) hb _).setCell (p := ⟨b, 1, none⟩) hb _).setCell (p := ⟨b, 2, none⟩) hb _).setCell (p := ⟨b + 1, 0, none⟩) (Nat.le_succ_of_le hb) _)).trans (belowK_b (w := w) (Nat.le_refl _) _ D _ _ hD h7 rfl rfl)
  · intro base v n xs ho hne
    refine ((ho.beside (fun k hk => (hne k hk).1) x y z).far (p := ⟨b + 1, 0, none⟩) (fun k hk => (hne k hk).2.1) e).grown (grownBy_putObj' _ D (.deferred none)) ?_
    intro k hk e2
    cases e2
    exact (hne _ hk).2.2 rfl

theorem keepsFrom_drewN {B : Nat} {W W' : World} (h : KeepsFrom B W W') (n : Nat) : KeepsFrom B W (W'.drewN n) := ⟨h.size, h.same⟩

/-- A middle part of a slice of pictures. -/
theorem Pics.mid {W : World} {A : Option Addr} {ps : List PicD} (h : Pics W A ps) (k n : Nat) : Pics W (A.map fun x => x.add (k * 3)) ((ps.drop k).take n) := by
  rcases h with h | ⟨b, off, hA, hc⟩
  · exact .inl (by simp [h])
  · refine .inr ⟨b, off + k * 3, by simp [hA, Addr.add], fun j p hp => ?_⟩
    have hp : ps[k + j]? = some p := by
      have hj : j < n := by have := (List.getElem?_eq_some_iff.1 hp).1; simp at this; omega
      rw [List.getElem?_take_of_lt hj, List.getElem?_drop] at hp
      exact hp
    obtain ⟨A', n', c', h0, h1, h2, h3⟩ := hc (k + j) p hp
    have e : off + k * 3 + j * 3 = off + (k + j) * 3 := by omega
    rw [e]
    exact ⟨A', n', c', h0, h1, h2, h3⟩
theorem beside_size {q : List PicD} (h : besideE q = 0) : sizeB (besideP q).a (besideP q).d = true := by
  cases q with
  | nil => simp [besideE] at h
  | cons p ps =>
    unfold besideE at h
    split at h
    · cases ‹_ = _›
    · rename_i p' ps' e
      injection e with e1 e2
      subst e1; subst e2
      by_cases h1 : allE (p :: ps) = 0
      · rw [if_pos h1] at h
        by_cases h2 : (p :: ps).all (fun q => q.d == p.d) = true
        · rw [if_pos h2] at h
          by_cases h3 : sizeB (sumA (p :: ps)) p.d = true
          · exact h3
          · rw [if_neg h3] at h; omega
        · rw [if_neg h2] at h; omega
      · rw [if_neg h1] at h; omega

set_option maxRecDepth 100000 in
set_option maxHeartbeats 3200000 in
theorem sheet_good (g : GrD) (A : Option Addr) (c : Nat) (ps : List PicD) (w : World) (hg : g.ok) (hp : Pics w A ps) (hl : ps.length ≤ 1000000) (hcL : ps.length ≤ c) (hI : gridI g = 0) (hE : allE ps = 0) (hL : (ps.length : Int) = gridA g * gridD g) :
    Calls Try.prog 40 #[.agg #[.bool g.re.neg, .string g.re.n, .int .i64 g.re.e, .bool g.im.neg, .string g.im.n, .int .i64 g.im.e, .int .i64 g.exp, .int .i64 g.across, .int .i64 g.down, .int .i64 g.wide, .int .i64 g.high], .slice A ps.length c] w (PutPost w (sheetE g ps) (sheetP g ps)) := by
  obtain ⟨L, hLd⟩ : ∃ L, L = ps.length := ⟨_, rfl⟩
  have CV : Hid (∀ W, Calls Try.prog 57 #[.agg #[.bool g.re.neg, .string g.re.n, .int .i64 g.re.e, .bool g.im.neg, .string g.im.n, .int .i64 g.im.e, .int .i64 g.exp, .int .i64 g.across, .int .i64 g.down, .int .i64 g.wide, .int .i64 g.high]] W fun e w' => e = .returned (.int .i64 0) ∧ Kept W w') := fun W => by
    have := tcheck_any g W hg
    rwa [hI] at this
  have CA : Hid (∀ W, Kept w W → Calls Try.prog 54 #[.slice A L c] W fun e w' => e = .returned (.int .i64 0) ∧ Kept W w') := fun W hW => by
    have := all_any A c ps W (hp.kept hW) (by omega)
    rw [hE] at this
    rw [hLd]; exact this
  have CC : Hid (∀ W, Calls Try.prog 42 #[.agg #[.bool g.re.neg, .string g.re.n, .int .i64 g.re.e, .bool g.im.neg, .string g.im.n, .int .i64 g.im.e, .int .i64 g.exp, .int .i64 g.across, .int .i64 g.down, .int .i64 g.wide, .int .i64 g.high]] W fun e w' => e = .returned (.tuple #[.int .i64 (gridA g), .int .i64 (gridD g), .int .i64 0]) ∧ Kept W w') := fun W => by
    have := tcount_any g W hg
    rwa [show cntA g = gridA g by simp [cntA, hI], show cntD g = gridD g by simp [cntD, hI], hI] at this
  have CRS := hide (fun (W : World) => rects_any g W)
  have HSE : Hid (sheetE g ps = if fitsB g ps = false then 291 else if sizeB g.across g.down = false then 4 else if rowsE (sheetRows g ps) ≠ 0 then rowsE (sheetRows g ps) else belowE ((sheetRows g ps).map besideP)) := by
    show _ = _
    unfold sheetE; rw [if_neg (by simp [hI]), if_neg (by simp [hE]), if_neg (by simp [hL])]
  obtain ⟨hB, hm⟩ := gridI_ok hI
  obtain ⟨ga0, ga1⟩ := hB.gA
  obtain ⟨gd0, gd1⟩ := hB.gD
  obtain ⟨W0, hW0⟩ : ∃ W0, W0 = (((w.alloc (.cells #[.bool g.re.neg, .string g.re.n, .int .i64 g.re.e, .bool g.im.neg, .string g.im.n, .int .i64 g.im.e, .int .i64 g.exp, .int .i64 g.across, .int .i64 g.down, .int .i64 g.wide, .int .i64 g.high] 82)).alloc (.cells #[.slice A L c] 58)).alloc (.cells #[.int .i64 0, .int .i64 0, .slice none 0 0] 24)).alloc (.cells #[.int .i64 0] 26) := ⟨_, rfl⟩
  have sz0 : W0.heap.size = w.heap.size + 4 := by rw [hW0]; simp
  have K0 : Hid (Kept w W0) := by rw [hW0]; exact ((((Below.refl _ _).alloc (Nat.le_refl _) _).alloc (by simp) _).alloc (by first | (simp; done) | (simp; omega)) _).alloc (by first | (simp; done) | (simp; omega)) _
  have S0 : Hid (∀ W, Below W0.heap.size W0 W → GBox W w.heap.size g ∧ W.cell? ⟨w.heap.size + 1, 0, none⟩ = some (.slice A L c) ∧ PBox W (w.heap.size + 1 + 1) (.int .i64 0) (.int .i64 0) (.slice none 0 0) ∧ W.cell? ⟨w.heap.size + 1 + 1 + 1, 0, none⟩ = some (.int .i64 0) ∧ W.frozen? ⟨w.heap.size + 1 + 1 + 1, 0, none⟩ = false ∧ w.heap.size + 1 + 1 + 1 < W.heap.size) := by
    intro W hW
    have hW : Kept W0 W := hW
    have g0 : GBox W0 w.heap.size g := by
      rw [hW0]
      exact (GBox.new w g _ _ rfl).below ((((Below.refl _ _).alloc (Nat.le_refl _) _).alloc (by simp) _).alloc (by first | (simp; done) | (simp; omega)) _) (by simp)
    have r0 : PBox W0 (w.heap.size + 1 + 1) (.int .i64 0) (.int .i64 0) (.slice none 0 0) := by
      rw [hW0]
      exact (PBox.new _ _ _ _ _ _ (by simp)).kept ((Below.refl _ _).alloc (Nat.le_refl _) _)
    have e0 : W0.frozen? ⟨w.heap.size + 1 + 1 + 1, 0, none⟩ = false := by
      have h9 := fresh_frozen (((w.alloc (.cells #[.bool g.re.neg, .string g.re.n, .int .i64 g.re.e, .bool g.im.neg, .string g.im.n, .int .i64 g.im.e, .int .i64 g.exp, .int .i64 g.across, .int .i64 g.down, .int .i64 g.wide, .int .i64 g.high] 82)).alloc (.cells #[.slice A L c] 58)).alloc (.cells #[.int .i64 0, .int .i64 0, .slice none 0 0] 24)) #[.int .i64 0] 26 0
      simp only [World.size_alloc] at h9
      rw [hW0]; exact h9
    have S1 : W0.cell? ⟨w.heap.size + 1, 0, none⟩ = some (.slice A L c) ∧ W0.cell? ⟨w.heap.size + 1 + 1 + 1, 0, none⟩ = some (.int .i64 0) := by
      have c1 := (((Boxed.new (w.alloc (.cells #[.bool g.re.neg, .string g.re.n, .int .i64 g.re.e, .bool g.im.neg, .string g.im.n, .int .i64 g.im.e, .int .i64 g.exp, .int .i64 g.across, .int .i64 g.down, .int .i64 g.wide, .int .i64 g.high] 82)) 58 (.slice A L c)).alloc (.cells #[.int .i64 0, .int .i64 0, .slice none 0 0] 24)).alloc (.cells #[.int .i64 0] 26)).cell
      have c2 := (Boxed.new (((w.alloc (.cells #[.bool g.re.neg, .string g.re.n, .int .i64 g.re.e, .bool g.im.neg, .string g.im.n, .int .i64 g.im.e, .int .i64 g.exp, .int .i64 g.across, .int .i64 g.down, .int .i64 g.wide, .int .i64 g.high] 82)).alloc (.cells #[.slice A L c] 58)).alloc (.cells #[.int .i64 0, .int .i64 0, .slice none 0 0] 24)) 26 (.int .i64 0)).cell
      simp only [World.size_alloc] at c1 c2
      rw [hW0]
      exact ⟨c1, c2⟩
    refine ⟨g0.below hW (by omega), (hW.cells (w.heap.size + 1) 0 (by omega)).trans S1.1, r0.kept hW, (hW.cells (w.heap.size + 1 + 1 + 1) 0 (by omega)).trans S1.2, (hW.thaw (w.heap.size + 1 + 1 + 1) 0 (by omega)).trans e0, by have := hW.size; omega⟩
  rw [← hLd] at hL hl ⊢
  have HLD := hide hLd
  clear hLd
  have HLI : Hid ((L : Int) = gridA g * gridD g) := hL
  have hne : ((L : Int) != gridA g * gridD g) = false := by simp [hL]
  have p1 : 0 ≤ gridA g * gridD g := Int.mul_nonneg (by omega) (by omega)
  have HP := hide hp
  have HG := hide hg
  have HCL := hide hcL
  have HNL : Hid (rectsN g = L) := by
    show _ = _
    have c1 : cntA g = gridA g := by simp [cntA, hI]
    have c2 : cntD g = gridD g := by simp [cntD, hI]
    unfold rectsN; rw [c1, c2]; omega
  clear hL hp hE hI hg hB
  refine callsIn_wide.1 (callsIn_of_wp_marks (n := 5) Try.func40 rfl trivial ?_ rfl)
  simp only [Try.ntmps40, List.size_toArray, List.length_cons, List.length_nil, Nat.reduceAdd, Nat.reduceSub, Array.replicate_succ, Array.replicate_zero, List.push_toArray, List.append_toArray, List.nil_append, List.cons_append]
  refine wpIn_wide.2 ?_
  go_wp2_with fail
  rw [← hW0]
  clear hW0 sz0
  refine (CV.out _).mono ?_
  rintro e w1 ⟨rfl, hk1⟩
  have K1 := hide (show Kept W0 w1 from hk1)
  obtain ⟨⟨q0, q1, q2, q3, q4, q5, q6, q7, q8, q9, q10⟩, s0, rb, e0, e1, hlt1⟩ := S0.out w1 hk1
  clear hk1 rb
  go_wp2_with fail
  refine (CA.out _ (K0.out.trans (K1.out.mono K0.out.size))).mono ?_
  rintro e w2 ⟨rfl, hk2⟩
  have K2 := hide (show Kept W0 w2 from K1.out.trans' hk2)
  clear hk2 q0 q1 q2 q3 q4 q5 q6 q7 q8 q9 q10 s0 e0 e1 hlt1
  obtain ⟨⟨q0, q1, q2, q3, q4, q5, q6, q7, q8, q9, q10⟩, s0, rb, e0, e1, hlt1⟩ := S0.out w2 K2.out
  clear rb
  go_wp2_with fail
  refine (CC.out _).mono ?_
  rintro e w3 ⟨rfl, hk3⟩
  have K3 := hide (show Kept W0 w3 from K2.out.trans' hk3)
  clear hk3 q0 q1 q2 q3 q4 q5 q6 q7 q8 q9 q10 s0 e0 e1 hlt1
  obtain ⟨⟨q0, q1, q2, q3, q4, q5, q6, q7, q8, q9, q10⟩, s0, rb, e0, e1, hlt1⟩ := S0.out w3 K3.out
  clear rb
  go_wp2_with fail
  refine (CRS.out _).mono ?_
  rintro e w4 ⟨rfl, rfl⟩
  obtain ⟨w4, hw4⟩ : ∃ w4, w4 = w3.alloc (.cells #[.bool g.re.neg, .string g.re.n, .int .i64 g.re.e, .bool g.im.neg, .string g.im.n, .int .i64 g.im.e, .int .i64 g.exp, .int .i64 g.across, .int .i64 g.down, .int .i64 g.wide, .int .i64 g.high] 82) := ⟨_, rfl⟩
  have hG4 : GBox w4 w3.heap.size g := by rw [hw4]; exact GBox.new _ _ _ _ rfl
  have sz4 : w4.heap.size = w3.heap.size + 1 := by rw [hw4]; simp
  have K4 : Hid (Kept W0 w4) := by rw [hw4]; exact K3.out.trans ((Below.refl _ _).alloc (Nat.le_refl _) _ |>.mono K3.out.size)
  go_wp2_with fail
  rw [← hw4]
  clear hw4
  refine (wpIn_wide (n := 5)).1 (wpIn_rangeFunc_ownH (α := Fin (rectsN g)) rfl (by decide) (gf := 60) (lb := #[.pointer (some ⟨w3.heap.size, 0, none⟩)]) rfl trivial (enters_of Try.func60 (by kernel_rfl) rfl)
    (rects_stopsF 4 (by omega) w3.heap.size w4.heap.size g HG w4 (by omega) (Nat.le_refl _) hG4) belowK_t (belowK_b (Nat.le_refl _)) (Below.refl _ _) (fun _ => rfl)
    (fun pre W => (∀ k ∈ pre, fitB g ps k.val = true) ∧ Below w4.heap.size w4 W)
    (fun c pre W => c = .ret ∧ (∃ k ∈ pre, fitB g ps k.val = false) ∧ PBox W (w.heap.size + 1 + 1) (.int .i64 0) (.int .i64 0) (.slice none 0 0) ∧ W.cell? ⟨w.heap.size + 1 + 1 + 1, 0, none⟩ = some (.int .i64 291) ∧ Below w.heap.size w W)
    ?hI ?hIx ⟨(fun _ h => by cases h), Below.refl _ _⟩
    (fun k a' W => ∃ Bx, w4.heap.size ≤ Bx ∧ W.cell? ⟨Bx, 2, none⟩ = some (.int .i64 (rectW g k.val)) ∧ W.cell? ⟨Bx, 3, none⟩ = some (.int .i64 (rectH g k.val)) ∧ a' = { tmps := #[.agg #[.bool g.re.neg, .string g.re.n, .int .i64 g.re.e, .bool g.im.neg, .string g.im.n, .int .i64 g.im.e, .int .i64 g.exp, .int .i64 g.across, .int .i64 g.down, .int .i64 g.wide, .int .i64 g.high], .slice A L c, .pointer (some ⟨w.heap.size, 0, none⟩), .pointer (some ⟨w.heap.size + 1, 0, none⟩), .pointer (some ⟨w.heap.size + 1 + 1, 0, none⟩), .pointer (some ⟨w.heap.size + 1 + 1 + 1, 0, none⟩), .int .i64 0, .int .i64 0, .int .i64 (gridA g), .int .i64 (gridD g), .int .i64 0, .int .i64 (k.val : Int), .pointer (some ⟨Bx, 0, none⟩), undef, undef, undef, undef, .agg #[.bool g.re.neg, .string g.re.n, .int .i64 g.re.e, .bool g.im.neg, .string g.im.n, .int .i64 g.im.e, .int .i64 g.exp, .int .i64 g.across, .int .i64 g.down, .int .i64 g.wide, .int .i64 g.high], .int .i64 0, .int .i64 0, .bool false, undef, undef, .slice A L c, .int .i64 0, .int .i64 0, .bool false, undef, undef, .tuple #[.int .i64 (gridA g), .int .i64 (gridD g), .int .i64 0], .agg #[.bool g.re.neg, .string g.re.n, .int .i64 g.re.e, .bool g.im.neg, .string g.im.n, .int .i64 g.im.e, .int .i64 g.exp, .int .i64 g.across, .int .i64 g.down, .int .i64 g.wide, .int .i64 g.high], .tuple #[.int .i64 (gridA g), .int .i64 (gridD g), .int .i64 0], .int .i64 (gridA g), .int .i64 (gridD g), .int .i64 0, .slice A L c, .int .i64 (L : Int), .int .i64 (gridA g), .int .i64 (gridD g), .int .i64 (gridA g * gridD g), .bool false, undef, .agg #[.bool g.re.neg, .string g.re.n, .int .i64 g.re.e, .bool g.im.neg, .string g.im.n, .int .i64 g.im.e, .int .i64 g.exp, .int .i64 g.across, .int .i64 g.down, .int .i64 g.wide, .int .i64 g.high], .func (.func 60) #[] #[.pointer (some ⟨w3.heap.size, 0, none⟩)], .int .i64 (k.val : Int), .agg #[.int .i64 (rectX g k.val), .int .i64 (rectY g k.val), .int .i64 (rectW g k.val), .int .i64 (rectH g k.val)], undef, undef, undef, undef, undef, undef, undef, undef, undef, undef, undef, undef, undef, undef, undef, undef, undef, undef, undef, undef, undef, undef, undef, undef, undef, undef, undef, undef, undef, undef, undef, undef, undef, undef, undef, undef, undef, undef, undef, undef, undef, undef, undef, undef, undef, undef, undef, undef, undef, undef, undef, undef, undef, undef, undef, undef, undef, undef], defers := [] })
    ?hAx ?assign ?body ?done ?stop)
  case hI => exact OwnFrom.and (ownFrom_pure _ _) (ownFrom_below (Nat.le_refl _) (Nat.le_refl _))
  case hIx =>
    intro cc pre X Y row hs hg hr
    obtain ⟨rfl, hk, pb, e, hb⟩ := hs
    have hr' : ∀ r, row = some r → ∃ o : Obj, X.heap[r]? = some o ∧ o.isCells = false := fun r e => (hr r e).2
    exact ⟨rfl, hk, ⟨cell_kept pb.c0 hg hr', cell_kept pb.c1 hg hr', cell_kept pb.c2 hg hr', (frozen_kept pb.c0 hg hr').trans pb.f0, (frozen_kept pb.c1 hg hr').trans pb.f1, (frozen_kept pb.c2 hg hr').trans pb.f2⟩, cell_kept e hg hr',
      ownFrom_below (β := Unit) (Nat.le_refl _) (K0.out.trans (K4.out.mono K0.out.size)).size () X Y row hb hg hr⟩
  case hAx =>
    intro k a' _ X Y row hs hg hr
    obtain ⟨Bx, h1, h2, h3, h4⟩ := hs
    exact ⟨Bx, h1, cell_kept h2 hg (fun r e => (hr r e).2), cell_kept h3 hg (fun r e => (hr r e).2), h4⟩
  case assign =>
    rintro l pre ⟨k, hkN⟩ W K ⟨hf, hB⟩ hK
    simp only [encR]
    gi_wp2
    refine hK _ _ ((KeepsOthers.alloc _ _).from _) ((Below.refl _ W).alloc hB.size _) ⟨hf, hB.alloc hB.size _⟩ ⟨W.heap.size, hB.size, ?_, ?_, rfl⟩
    · simp [World.cell?_alloc_new]
    · simp
  case body =>
    rintro l pre ⟨k, hkN⟩ a' W hl ⟨r, hr⟩ ⟨hf, hB⟩ ⟨Bx, hBx, cx2, cx3, rfl⟩ hlt
    have hkL : k < L := by have := HNL.out; omega
    obtain ⟨p, hp⟩ : ∃ p, ps[k]? = some p := ⟨_, List.getElem?_eq_getElem (HLD.out ▸ hkL)⟩
    have KW : Kept W0 W := K4.out.trans (hB.mono K4.out.size)
    obtain ⟨b, off, A', n', c', rfl, hbl, x0, x1, x2, hat⟩ := Pics.at_ (HP.out.kept (K0.out.trans (KW.mono K0.out.size))) hp
    have hcap := HCL.out
    obtain ⟨⟨q0, q1, q2, q3, q4, q5, q6, q7, q8, q9, q10⟩, s0, rb, e0, e1, hlt1⟩ := S0.out W KW
    clear q0 q1 q2 q3 q4 q5 q6 q7 q8 q9 q10
    have hkI : (k : Int) < (L : Int) := by omega
    have hfit : fitB g ps k = (p.a == rectW g k && p.d == rectH g k) := by simp [fitB, hp]
    have p0 := rb.c0
    have p1 := rb.c1
    have p2 := rb.c2
    have p3 := rb.f0
    have p4 := rb.f1
    have p5 := rb.f2
    by_cases ha : p.a = rectW g k
    · by_cases hd : p.d = rectH g k
      · have hn1 : (p.a != rectW g k) = false := by simp [ha]
        have hn2 : (p.d != rectH g k) = false := by simp [hd]
        gi_wp2
        refine wpIn_region_quiet_litR (by kernel_rfl) (by kernel_rfl) (by kernel_rfl) ?_
        repeat (gi_big_quiet_step (fail))
        refine wpQuietIn_nil ?_
        intro _ hw'
        obtain ⟨nq, hw''⟩ := hw'
        subst hw''
        gi_wp2
        refine ⟨keepsFrom_drewN (KeepsFrom.refl _ _) _, drewN_below (Below.refl _ _) _, ?_, drewN_below hB _⟩
        intro k2 hk2
        rcases List.mem_append.1 hk2 with h | h
        · exact hf k2 h
        · simp at h
          subst h
          show fitB g ps k = true
          simp [hfit, ha, hd]
      · have hn1 : (p.a != rectW g k) = false := by simp [ha]
        have hn2 : (p.d != rectH g k) = true := by simp [hd]
        have hx2 : (p.d == rectH g k) = false := by simp [hd]
        gi_wp2
        refine wpIn_region_quiet_litR (by kernel_rfl) (by kernel_rfl) (by kernel_rfl) ?_
        repeat (gi_big_quiet_step (fail))
        refine wpQuietIn_nil ?_
        intro _ hw'
        obtain ⟨nq, hw''⟩ := hw'
        subst hw''
        gi_wp2
        exact ⟨keepsFrom_ret _ _ _ _ _ _, rfl, ⟨⟨k, hkN⟩, by simp, by show fitB g ps k = false; simp [hfit, ha, hd]⟩, ret_sheet 291 rb e0 (K0.out.trans (KW.mono K0.out.size)) (by omega) nq⟩
    · have hn1 : (p.a != rectW g k) = true := by simp [ha]
      have hx1 : (p.a == rectW g k) = false := by simp [ha]
      gi_wp2
      refine wpIn_region_quiet_litR (by kernel_rfl) (by kernel_rfl) (by kernel_rfl) ?_
      repeat (gi_big_quiet_step (fail))
      refine wpQuietIn_nil ?_
      intro _ hw'
      obtain ⟨nq, hw''⟩ := hw'
      subst hw''
      gi_wp2
      exact ⟨keepsFrom_ret _ _ _ _ _ _, rfl, ⟨⟨k, hkN⟩, by simp, by show fitB g ps k = false; simp [hfit, ha]⟩, ret_sheet 291 rb e0 (K0.out.trans (KW.mono K0.out.size)) (by omega) nq⟩
  case done =>
    rintro D ys W hD hys ⟨hf, hB⟩ hK
    have K9 : Hid (w.heap.size ≤ w4.heap.size) := (K0.out.trans (K4.out.mono K0.out.size)).size
    have KW : Kept W0 W := K4.out.trans (hB.mono K4.out.size)
    have KWh := hide KW
    obtain ⟨⟨q0, q1, q2, q3, q4, q5, q6, q7, q8, q9, q10⟩, s0, rb, e0, e1, hlt1⟩ := S0.out W KW
    have p0 := rb.c0
    have p1 := rb.c1
    have p2 := rb.c2
    have p3 := rb.f0
    have p4 := rb.f1
    have p5 := rb.f2
    clear q0 q1
    have CSZ := hide (fun (X : World) => size_any g.across g.down X HG.out.across.1 HG.out.across.2 HG.out.down.1 HG.out.down.2)
    go_wp2_with fail
    refine (CSZ.out _).mono ?_
    rintro e w5 ⟨rfl, rfl⟩
    cases hsz : sizeB g.across g.down with
    | false =>
      go_wp2_with fail
      have hsE : sheetE g ps = 4 := by
        have hff : fitsB g ps = true := by
          refine List.all_eq_true.2 fun k hk => ?_
          have hk : k ∈ List.range (rectsN g) := by have := HNL.out; have := HLD.out; simp at hk ⊢; omega
          rw [← hys] at hk
          obtain ⟨k2, h2, rfl⟩ := List.mem_map.1 hk
          exact hf k2 h2
        rw [HSE.out, if_neg (by simp [hff]), if_pos hsz]
      obtain ⟨pb, e, hB2⟩ := ret_sheet 4 rb e0 (K0.out.trans (KWh.out.mono K0.out.size)) (by omega) 0
      have hK2 := (keepsFrom_ret D W (w.heap.size + 1 + 1) (w.heap.size + 1 + 1 + 1) 0 (.int .i64 4)).same D _ (Nat.le_refl _) hK rfl
      refine ⟨by simp, .inl ⟨_, _, rfl, run_takeDeferred hK2, ?_⟩⟩
      have c0 := cell_kept pb.c0 (grownBy_putObj' _ D (.deferred none)) (fun r e => by cases e; exact ⟨_, hK2, rfl⟩)
      have c1 := cell_kept pb.c1 (grownBy_putObj' _ D (.deferred none)) (fun r e => by cases e; exact ⟨_, hK2, rfl⟩)
      have c2 := cell_kept pb.c2 (grownBy_putObj' _ D (.deferred none)) (fun r e => by cases e; exact ⟨_, hK2, rfl⟩)
      have c3 := cell_kept e (grownBy_putObj' _ D (.deferred none)) (fun r e => by cases e; exact ⟨_, hK2, rfl⟩)
      simp only [World.store3, show W.drewN 0 = W from rfl] at c0 c1 c2 c3
      refine ⟨.tuple #[.agg #[.int .i64 0, .int .i64 0, .slice none 0 0], .int .i64 4], ?_, by rw [hsE]; exact PutPost.err (by decide) (hB2.trans (belowK_b (w := w) (Nat.le_refl _) _ D _ _ (Nat.le_trans K9.out hD) hK2 rfl rfl))⟩
      simp [results, Try.f40, go_sem, c0, c1, c2, c3]
    | true =>
      have HFF : Hid (fitsB g ps = true) := by
        refine List.all_eq_true.2 fun k hk => ?_
        have hk : k ∈ List.range (rectsN g) := by have := HNL.out; have := HLD.out; simp at hk ⊢; omega
        rw [← hys] at hk
        obtain ⟨k2, h2, rfl⟩ := List.mem_map.1 hk
        exact hf k2 h2
      have HSE2 : Hid (sheetE g ps = if rowsE (sheetRows g ps) ≠ 0 then rowsE (sheetRows g ps) else belowE ((sheetRows g ps).map besideP)) := by
        show _ = _
        rw [HSE.out, if_neg (by simp [HFF.out]), if_neg (by simp [hsz])]
      have HS2 := hide hsz
      obtain ⟨N, hN⟩ : ∃ N : Nat, (N : Int) = gridD g := ⟨(gridD g).toNat, Int.toNat_of_nonneg (by omega)⟩
      have HRL : Hid ((sheetRows g ps).length = N) := by show _ = _; simp [sheetRows]; omega
      clear hf hys hsz
      go_wp2_with fail
      go_loopg [13, 75] N (fun gh v ix wr => ∃ (k : Nat) (xs : List Value), k + gh = N ∧ ix = .int .i64 k ∧ GrowPics wr W.heap.size v (((sheetRows g ps).take k).map besideP) xs ∧ Hid (∀ q ∈ (sheetRows g ps).take k, besideE q = 0) ∧ Kept W wr)
      case atStart => exact ⟨0, [], by omega, rfl, by simpa using GrowPics.nil _ _, by simp [Hid], Below.refl _ _⟩
      case round =>
        obtain ⟨k, xs, hkg, rfl, hgp, HZ, hkw⟩ := hrel
        cases gk with
        | zero =>
          have hge : ¬ (k : Int) < gridD g := by omega
          have hRL := HRL.out
          rw [List.take_of_length_le (by omega)] at hgp HZ
          have hRE : rowsE (sheetRows g ps) = 0 := rowsE_zero HZ.out
          have HSE3 : Hid (sheetE g ps = belowE ((sheetRows g ps).map besideP)) := by show _ = _; rw [HSE2.out, if_neg (by simp [hRE])]
          obtain ⟨RS, hRS⟩ : ∃ RS, RS = (sheetRows g ps).map besideP := ⟨_, rfl⟩
          obtain ⟨M, hM⟩ : ∃ M, M = RS.length := ⟨_, rfl⟩
          have hMN : M ≤ 1000000 := by rw [hM, hRS]; simp; omega
          rw [← hRS] at hgp HSE3
          obtain ⟨AR, cR, hv, hcR, hpR⟩ := hgp.pics
          rw [← hM] at hv hcR
          subst hv
          have CBW : Hid (Calls Try.prog 31 #[.slice AR M cR] wr (PutPost wr (belowE RS) (belowP RS))) := by
            show Calls _ _ _ _ _
            rw [hM]; exact below_any AR cR RS wr hpR (by rw [← hM]; exact hMN)
          have HRS := hide hRS
          clear hM hRS
          have HKW := hide hkw
          clear hgp hpR hRE
          go_wp2_with fail
          refine CBW.out.mono ?_
          intro e w6 hput
          clear q2 q3 q4 q5 q6 q7 q8 q9 q10 s0 p0 p1 p2 p3 p4 p5 rb e0 e1 hlt1
          by_cases hbe : belowE RS = 0
          · unfold PutPost at hput
            rw [if_pos hbe] at hput
            obtain ⟨vb, rfl, hob, hk6⟩ := hput
            have HK6 : Hid (Kept W w6) := HKW.out.trans' hk6
            obtain ⟨AB, cB, rfl, -, -, -, -⟩ := hob.form
            have HOB := hide hob
            clear hk6 hob
            obtain ⟨⟨q0, q1, q2, q3, q4, q5, q6, q7, q8, q9, q10⟩, s0, rb, e0, e1, hlt1⟩ := S0.out w6 (KWh.out.trans' HK6.out)
            have p0 := rb.c0
            have p1 := rb.c1
            have p2 := rb.c2
            have p3 := rb.f0
            have p4 := rb.f1
            have p5 := rb.f2
            clear q0 q1 q2 q3 q4 q5 q6 q7 q8 q9 q10 s0
            go_wp2_with fail
            have hKlt : D < W.heap.size := (Array.getElem?_eq_some_iff.1 hK).1
            have hK6 : w6.heap[D]? = some (.deferred (some [])) := (Below.block HK6.out D hKlt).trans hK
            obtain ⟨h7, W8, hW8, c0, c1, c2, c3, hk8, hown⟩ := sheet_out rb e0 (K0.out.trans ((KWh.out.trans' HK6.out).mono K0.out.size)) (by omega) (Nat.le_trans K9.out hD) hK6 (.int .i64 (belowP RS).a) (.int .i64 (belowP RS).d) (.slice AB (belowP RS).g.length cB) (.int .i64 0)
            refine ⟨by simp, .inl ⟨_, _, rfl, run_takeDeferred h7, ?_⟩⟩
            have hlW : w.heap.size + 1 + 1 + 1 < W.heap.size := (S0.out W KWh.out).2.2.2.2.2
            have hWr : W.heap.size ≤ wr.heap.size := Below.size HKW.out
            refine ⟨.tuple #[.agg #[.int .i64 (belowP RS).a, .int .i64 (belowP RS).d, .slice AB (belowP RS).g.length cB], .int .i64 0], ?_, ?_⟩
            · simp only [World.store3] at hW8
              rw [hW8] at c0 c1 c2 c3
              simp [results, Try.f40, go_sem, c0, c1, c2, c3]
            · have hP : sheetP g ps = belowP RS := by unfold sheetP; rw [← HRS.out]
              rw [HSE3.out, hbe, hP]
              simp only [World.store3] at hW8
              rw [hW8] at hown hk8
              exact PutPost.ok ((hown _ _ _ _ HOB.out (fun k hk => by have := (HOB.out.lt k hk).1; exact ⟨by omega, by omega, by omega⟩)).less (by omega)) hk8
          · unfold PutPost at hput
            rw [if_neg hbe] at hput
            obtain ⟨rfl, hk6⟩ := hput
            have HK6 : Hid (Kept W w6) := HKW.out.trans' hk6
            clear hk6
            obtain ⟨⟨q0, q1, q2, q3, q4, q5, q6, q7, q8, q9, q10⟩, s0, rb, e0, e1, hlt1⟩ := S0.out w6 (KWh.out.trans' HK6.out)
            have p0 := rb.c0
            have p1 := rb.c1
            have p2 := rb.c2
            have p3 := rb.f0
            have p4 := rb.f1
            have p5 := rb.f2
            clear q0 q1 q2 q3 q4 q5 q6 q7 q8 q9 q10 s0
            go_wp2_with fail
            have hKlt : D < W.heap.size := (Array.getElem?_eq_some_iff.1 hK).1
            have hK6 : w6.heap[D]? = some (.deferred (some [])) := (Below.block HK6.out D hKlt).trans hK
            obtain ⟨h7, W8, hW8, c0, c1, c2, c3, hk8, hown⟩ := sheet_out rb e0 (K0.out.trans ((KWh.out.trans' HK6.out).mono K0.out.size)) (by omega) (Nat.le_trans K9.out hD) hK6 (.int .i64 0) (.int .i64 0) (.slice none 0 0) (.int .i64 (belowE RS))
            refine ⟨by simp, .inl ⟨_, _, rfl, run_takeDeferred h7, ?_⟩⟩
            simp only [World.store3] at hW8
            rw [hW8] at c0 c1 c2 c3 hk8
            refine ⟨.tuple #[.agg #[.int .i64 0, .int .i64 0, .slice none 0 0], .int .i64 (belowE RS)], ?_, by rw [HSE3.out]; exact PutPost.err hbe hk8⟩
            simp [results, Try.f40, go_sem, c0, c1, c2, c3]
        | succ gk =>
          have hlt : (k : Int) < gridD g := by omega
          have hLI := HLI.out
          have hcl : L ≤ c := by have := HCL.out; have := HLD.out; omega
          have p6 : 0 ≤ (k : Int) * gridA g := Int.mul_nonneg (by omega) (by omega)
          have p7 : ((k : Int) + 1) * gridA g ≤ L := by rw [hLI, Int.mul_comm (gridA g)]; exact Int.mul_le_mul_of_nonneg_right (by omega) (by omega)
          have p8 : (k : Int) * gridA g + gridA g = ((k : Int) + 1) * gridA g := by rw [Int.add_mul]; omega
          have p9 : (k : Int) * gridA g ≤ ((k : Int) + 1) * gridA g := by omega
          have p10 : ¬ c = ((k : Int) * gridA g).toNat := by omega
          have p11 : ((k : Int) + 1) * gridA g ≤ (c : Int) := by omega
          have HLK := hide (show gridA g = ((k : Int) + 1) * gridA g - (k : Int) * gridA g by omega)
          have HKG := hide hkg
          have HGP := hide hgp
          have HKW := hide hkw
          clear p8 hLI hkg hgp hkw q2 q3 q4 q5 q6 q7 q8 q9 q10 s0 p0 p1 p2 p3 p4 p5 rb e0 e1 hlt1
          obtain ⟨⟨q0, q1, q2, q3, q4, q5, q6, q7, q8, q9, q10⟩, s0, rb, e0, e1, hlt1⟩ := S0.out wr (KWh.out.trans' HKW.out)
          clear rb e0 e1 hlt1 q0 q1 q2 q3 q4 q5 q6 q7 q8 q9 q10
          obtain ⟨q, hq⟩ : ∃ q, (sheetRows g ps)[k]? = some q := ⟨_, List.getElem?_eq_getElem (by have := HRL.out; omega)⟩
          have HLO := hide (show ((k : Int) * gridA g).toNat = k * (gridA g).toNat by rw [Int.toNat_mul (by omega) (by omega)]; rfl)
          have HQE : Hid (q = (ps.drop (k * (gridA g).toNat)).take (gridA g).toNat) := by
            show _ = _
            unfold sheetRows at hq
            rw [List.getElem?_map, List.getElem?_range (by have := HKG.out; omega)] at hq
            simpa using hq.symm
          have HQL : Hid (q.length = (((k : Int) + 1) * gridA g).toNat - ((k : Int) * gridA g).toNat) := by
            show _ = _
            have h1 := HLO.out
            have h2 := HLD.out
            have h3 := HLK.out
            rw [HQE.out, List.length_take, List.length_drop]
            omega
          have CB : Hid (Calls Try.prog 29 #[.slice (Option.map (fun x => x.add (((k : Int) * gridA g).toNat * 3)) A) ((((k : Int) + 1) * gridA g).toNat - ((k : Int) * gridA g).toNat) (c - ((k : Int) * gridA g).toNat)] wr (PutPost wr (besideE q) (besideP q))) := by
            show Calls _ _ _ _ _
            have hqp : Pics wr (Option.map (fun x => x.add (((k : Int) * gridA g).toNat * 3)) A) q := by
              rw [HLO.out, HQE.out]
              exact ((HP.out.kept (K0.out.trans ((KWh.out.trans' HKW.out).mono K0.out.size))).mid _ _)
            rw [← HQL.out]
            exact beside_any _ _ q wr hqp (by have := HQL.out; omega)
          have HQ := hide hq
          clear hq
          go_wp2_with fail
          refine CB.out.mono ?_
          intro e w6 hput
          clear s0
          by_cases hbe : besideE q = 0
          · unfold PutPost at hput
            rw [if_pos hbe] at hput
            obtain ⟨vb, rfl, hob, hk6⟩ := hput
            have HK6 : Hid (Kept W w6) := HKW.out.trans' hk6
            obtain ⟨AB, cB, rfl, hcb, hcm, hrow, hblk, -⟩ := hob.form
            have hsz := sizeB_bounds (beside_size hbe)
            have HPA : Hid (PicAt w6 (besideP q) AB (besideP q).g.length cB) := ⟨rfl, hcb, by have := beside_len q hbe; omega, hrow, by omega, by omega, by omega, by omega⟩
            have HBK : Hid (∀ b off, AB = some ⟨b, off, none⟩ → wr.heap.size ≤ b ∧ b < w6.heap.size) := fun b off e => by have := hblk _ e; exact ⟨this.2.1, this.2.2⟩
            have HGP6 := hide (HGP.out.kept hk6)
            obtain ⟨xa, hxa⟩ : ∃ xa, xa = (besideP q).a := ⟨_, rfl⟩
            obtain ⟨xd, hxd⟩ : ∃ xd, xd = (besideP q).d := ⟨_, rfl⟩
            obtain ⟨xn, hxn⟩ : ∃ xn, xn = (besideP q).g.length := ⟨_, rfl⟩
            rw [← hxa, ← hxd, ← hxn]
            have HXA := hide hxa
            have HXD := hide hxd
            have HXN := hide hxn
            have HBE := hide hbe
            have hwr6 := hk6.size
            clear hk6 hob hrow hblk hcb hcm hsz hxa hxd hxn hbe
            obtain ⟨i0, hi, hi0, hi1, hi2⟩ := info_parts info_pic
            have HRK := hide (show (((sheetRows g ps).take k).map besideP).length = k by simp; have := HRL.out; have := HKG.out; omega)
            have HOWN : Hid (Own w6 W.heap.size 3 u13 k xs) := by
              have h9 := HGP6.out.own
              rwa [HRK.out] at h9
            have hkN : k ≤ 1000000 := by omega
            have HVB : Hid (∀ k, u13.ownBlock = some k → k < wr.heap.size) := fun k hk => (HGP.out.own.lt k hk).2
            have HWr : Hid (wr.heap.size ≤ w6.heap.size) := hwr6
            go_wp2_with (at_builtin; refine wpList_append_row _ rfl _ _ 58 rfl W.heap.size 24 i0 (.agg #[.int .i64 0, .int .i64 0, .slice none 0 0]) 3 40 Try.underlying58 hi hi0 hi1 hi2 rfl (by decide) _ k xs rfl ((HOWN.out.alloc _).alloc _) (some ⟨w6.heap.size + 1, 0, none⟩) 1 1 [.int .i64 xa, .int .i64 xd, .slice AB xn cB] rfl rfl (Row.new_at _ _ _ _ _ _ rfl (by simp)) (fun u hu => by simp at hu; rcases hu with rfl | rfl | rfl <;> rfl) ?_ ?_ ?_ ?_)
            · unfold maxLen; omega
            · omega
            · have := HK6.out.size; simp; omega
            intro v2 w7 hown2 hg2 hat2
            have hk7 : Kept W w7 := ((HK6.out.alloc HK6.out.size _).alloc (by have := HK6.out.size; simp; omega) _).grown hg2 (by have := HK6.out.size; simp; omega) (fun k hk => (HOWN.out.lt k hk).1)
            have hgp7 : GrowPics w7 W.heap.size v2 (((sheetRows g ps).take (k + 1)).map besideP) (xs ++ picV (besideP q) AB xn cB) := by
              have hx := HXN.out
              rw [List.take_add_one, HQ.out, List.map_append]
              have ka : ∀ X : World, ∀ o, Kept X (X.alloc o) := fun X o => (Below.refl _ X).alloc (Nat.le_refl _) o
              refine GrowPics.snoc ((HGP6.out.kept (ka _ _)).kept (ka _ _)) (((hx ▸ HPA.out : PicAt w6 (besideP q) AB xn cB).kept (ka _ _)).kept (ka _ _)) ?_ ?_ hg2 (by simpa using hat2)
              · intro b off e
                have h1 := HBK.out b off e
                refine ⟨by simp; omega, fun e2 => ?_⟩
                have h2 := HVB.out b e2.symm
                omega
              · rw [HRK.out, picV, ← HXA.out, ← HXD.out]
                exact hown2
            have HGP7 := hide hgp7
            have HK7 := hide hk7
            have HZ7 : Hid (∀ q ∈ (sheetRows g ps).take (k + 1), besideE q = 0) := by
              intro q2 hq2
              rw [List.take_add_one, HQ.out] at hq2
              rcases List.mem_append.1 hq2 with h | h
              · exact HZ.out q2 h
              · simp at h; subst h; exact HBE.out
            clear hown2 hg2 hat2 hk7 hgp7 HGP HGP6 HOWN HVB HPA HBK
            go_wp2_with fail
            go_roundg gk
            case measure => omega
            case rel => exact ⟨k + 1, _, by have := HKG.out; omega, by go_num, HGP7.out, HZ7, HK7.out⟩
          · unfold PutPost at hput
            rw [if_neg hbe] at hput
            obtain ⟨rfl, hk6⟩ := hput
            have HK6 : Hid (Kept W w6) := HKW.out.trans' hk6
            have HSE3 : Hid (sheetE g ps = besideE q) := by
              show _ = _
              have h1 : rowsE (sheetRows g ps) = besideE q := rowsE_at HZ.out HQ.out hbe
              rw [HSE2.out, h1, if_pos hbe]
            have HBE := hide hbe
            have hbn : (besideE q != 0) = true := by simp [hbe]
            obtain ⟨X, hX⟩ : ∃ X, X = w6.alloc (.cells #[.int .i64 0, .int .i64 0, .slice none 0 0] 24) := ⟨_, rfl⟩
            have HKX : Hid (Kept W X) := by rw [hX]; exact HK6.out.alloc HK6.out.size _
            clear hk6 hbe
            go_upto_region 23 with fail
            rw [← hX]
            clear hX
            obtain ⟨⟨q0, q1, q2, q3, q4, q5, q6, q7, q8, q9, q10⟩, s0, rb, e0, e1, hlt1⟩ := S0.out X (KWh.out.trans' HKX.out)
            have p0 := rb.c0
            have p1 := rb.c1
            have p2 := rb.c2
            have p3 := rb.f0
            have p4 := rb.f1
            have p5 := rb.f2
            clear q0 q1 q2 q3 q4 q5 q6 q7 q8 q9 q10 s0
            go_wp2_with fail
            have hKlt : D < W.heap.size := (Array.getElem?_eq_some_iff.1 hK).1
            have hKX : X.heap[D]? = some (.deferred (some [])) := (Below.block HKX.out D hKlt).trans hK
            obtain ⟨h7, W8, hW8, c0, c1, c2, c3, hk8, hown⟩ := sheet_out rb e0 (K0.out.trans ((KWh.out.trans' HKX.out).mono K0.out.size)) (by omega) (Nat.le_trans K9.out hD) hKX (.int .i64 0) (.int .i64 0) (.slice none 0 0) (.int .i64 (besideE q))
            refine ⟨by simp, .inl ⟨_, _, rfl, run_takeDeferred h7, ?_⟩⟩
            simp only [World.store3] at hW8
            rw [hW8] at c0 c1 c2 c3 hk8
            refine ⟨.tuple #[.agg #[.int .i64 0, .int .i64 0, .slice none 0 0], .int .i64 (besideE q)], ?_, by rw [HSE3.out]; exact PutPost.err HBE.out hk8⟩
            simp [results, Try.f40, go_sem, c0, c1, c2, c3]
  case stop =>
    rintro D cc pre W hD _ ⟨rfl, ⟨k, hk, hkf⟩, pb, e, hB⟩ hK
    have p0 := pb.c0
    have p1 := pb.c1
    have p2 := pb.c2
    gi_wp2
    have hsE : sheetE g ps = 291 := by
      have hff : fitsB g ps = false := by
        rw [← Bool.not_eq_true]
        intro h
        have h2 := List.all_eq_true.1 h k.val (by have := k.isLt; have := HNL.out; have := HLD.out; simp; omega)
        rw [hkf] at h2
        cases h2
      rw [HSE.out, if_pos hff]
    have K9 : Hid (w.heap.size ≤ w4.heap.size) := (K0.out.trans (K4.out.mono K0.out.size)).size
    refine ⟨by simp, .inl ⟨_, _, rfl, run_takeDeferred hK, ?_⟩⟩
    have c0 := cell_kept pb.c0 (grownBy_putObj' _ D (.deferred none)) (fun r e => by cases e; exact ⟨_, hK, rfl⟩)
    have c1 := cell_kept pb.c1 (grownBy_putObj' _ D (.deferred none)) (fun r e => by cases e; exact ⟨_, hK, rfl⟩)
    have c2 := cell_kept pb.c2 (grownBy_putObj' _ D (.deferred none)) (fun r e => by cases e; exact ⟨_, hK, rfl⟩)
    have c3 := cell_kept e (grownBy_putObj' _ D (.deferred none)) (fun r e => by cases e; exact ⟨_, hK, rfl⟩)
    refine ⟨.tuple #[.agg #[.int .i64 0, .int .i64 0, .slice none 0 0], .int .i64 291], ?_, by rw [hsE]; exact PutPost.err (by decide) (hB.trans (belowK_b (w := w) (Nat.le_refl _) W D _ _ (Nat.le_trans K9.out hD) hK rfl rfl))⟩
    simp [results, Try.f40, go_sem, c0, c1, c2, c3]
end Go.Proofs.Ytbhgcbgaadnfpaa
