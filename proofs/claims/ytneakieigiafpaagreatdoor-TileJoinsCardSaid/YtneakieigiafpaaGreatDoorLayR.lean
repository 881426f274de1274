/- Lay, ExR: texts of one claim laid together. -/
import Derived.Test.YtneakieigiafpaaGreatDoorExP
import Derived.Test.YtneakieigiafpaaGreatDoorRows
import Derived.OpenShut
import Derived.LaidMore
import Derived.ProofKit
import Derived.Stop.Joined
import Derived.Test.YtneakieigiafpaaGreatDoorExQ
/- What the condition on the laid tables gives the runner; a closed call that answers true. -/
namespace Go.Proofs.YtneakieigiafpaaGreatDoor
open Go.Ex Go.RowKit Go.ChangeShapes Go.WideShapes Go.ChangeAt Go.WideMaps Go.WideElems
set_option maxRecDepth 100000

theorem bytes_of {P : Program} {W : World} {H : Type} {enc : TypeId × Value → H} {t e : TypeId} {n base fuel : Nat} {spare : Nat → Bool} {held : Bool} {cs : List Value} {p : List MemPlace} {ks : List Nat} (ht : P.underlying t = some (.array n e)) (he : P.underlying e = some (.int .u8)) (hce : P.cellsOf e = 1) (hct : P.cellsOf t = n)
    (h : DataW.trod enc P W base spare held fuel t cs = some (.agg (ks.map fun k : Nat => .lit (.int .u8 (k : Int))), p)) : cs = ks.map fun k : Nat => Value.int .u8 (k : Int) := by
  obtain ⟨xs, m, rfl, hx, hlen, hn, hel⟩ := DataW.trod_array ht h
  simp only [Prod.mk.injEq, DataW.agg.injEq] at hx
  have hk : ks.length = n := by
    have := congrArg List.length hx.1
    simpa [hn] using this
  refine List.ext_getElem? fun i => ?_
  by_cases hi : i < n
  · have h1 := hel i hi
    rw [hce, Nat.mul_one] at h1
    have hix : i < xs.length := by omega
    have hxi : xs[i]? = some xs[i] := List.getElem?_eq_getElem hix
    rw [hxi] at h1
    obtain ⟨k, e1, e2, -⟩ := DataW.trod_int he h1
    have e3 : cs[i]? = some (.int .u8 k) := by
      have := congrArg (fun l => l[0]?) e1
      simpa [List.getElem?_take, List.getElem?_drop] using this
    have hik : i < ks.length := by omega
    have e4 := congrArg (fun l => l[i]?) hx.1
    simp only [List.getElem?_map, hxi, List.getElem?_eq_getElem hik, Option.map_some, e2] at e4
    injection e4 with e4
    injection e4 with e4
    injection e4 with e4 e5
    rw [e3, List.getElem?_map, List.getElem?_eq_getElem hik, Option.map_some, e5]
  · have h1 : cs.length ≤ i := by omega
    have h2 : ks.length ≤ i := by omega
    simp [h1, h2]
def n64 : List Nat := [0, 1, 56, 2, 57, 49, 28, 3, 61, 58, 42, 50, 38, 29, 17, 4, 62, 47, 59, 36, 45, 43, 51, 22, 53, 39, 33, 30, 24, 18, 12, 5, 63, 55, 48, 27, 60, 41, 37, 16, 46, 35, 44, 21, 52, 32, 23, 11, 54, 26, 40, 15, 34, 20, 31, 10, 25, 14, 19, 9, 13, 8, 7, 6]
def n32 : List Nat := [0, 1, 28, 2, 29, 14, 24, 3, 30, 22, 20, 15, 25, 17, 4, 8, 31, 27, 13, 23, 21, 19, 16, 7, 26, 12, 18, 6, 11, 5, 10, 9]
theorem g64 : Tryz.prog.globalNamed "math/bits.deBruijn64tab" = some 1 := by kernel_rfl
theorem g32 : Tryz.prog.globalNamed "math/bits.deBruijn32tab" = some 2 := by kernel_rfl
def id0 : Va := ⟨fun b => b, fun _ => 0⟩
theorem laid_block {W : World} {l : List (String × DataW Unit)} {ps : List MemPlace} {name : String} {d : DataW Unit} {g : Nat} {ks : List Nat} {t e : TypeId} {tab : List SV} (hg : Tryz.prog.globalNamed name = some g) (htt : (Tryz.prog.globals[g]?).map (·.type) = some t) (hd : d = .agg (ks.map fun k : Nat => .lit (.int .u8 (k : Int)))) (ht : Tryz.prog.underlying t = some (.array ks.length e)) (he : Tryz.prog.underlying e = some (.int .u8)) (hce : Tryz.prog.cellsOf e = 1) (hct : Tryz.prog.cellsOf t = ks.length) (hpos : 0 < ks.length) (htab : tab = ks.map fun k : Nat => SV.v (.int .u8 (k : Int)))
    (hl : DataW.LaidVars Tryz.prog W ((name, d) :: l) ps) (hfz : ∀ b off, MemPlace.cell b off ∈ ps → (∃ c t, W.heap[b]? = some (.cells c t (0, 0)))) : BkOK id0 W g ⟨tab, 0⟩ ∧ ∃ q, DataW.LaidVars Tryz.prog W l q ∧ ∀ x ∈ q, x ∈ ps := by
  obtain ⟨g', t', cs, fuel, p, q, hg', ht', hv, htr, hrest, rfl⟩ := hl
  obtain rfl := Option.some.inj (hg.symm.trans hg')
  obtain rfl := Option.some.inj (htt.symm.trans ht')
  subst hd
  have hcs := bytes_of ht he hce hct htr
  have hlen : cs.size = ks.length := by rw [← Array.length_toList, hcs]; simp
  refine ⟨?_, q, hrest, fun x hx => List.mem_append_right _ hx⟩
  have hcell := World.var?_cell hg' hv
  have hmem : MemPlace.cell g 0 ∈ MemPlace.row ⟨g, 0, none⟩ cs.size ++ p ++ q := by
    refine List.mem_append_left _ (List.mem_append_left _ ?_)
    unfold MemPlace.row
    rw [List.mem_map]
    exact ⟨0, by rw [List.mem_range]; omega, by simp⟩
  obtain ⟨c, t'', hb⟩ := hfz g 0 hmem
  refine ⟨c, t'', (0, 0), hb, fun i x hx => ?_, .inl rfl, fun h => absurd rfl h⟩
  subst htab
  have h1 := hcell i
  have hi : i < ks.length := by have := (List.getElem?_eq_some_iff.1 hx).1; simpa using this
  have h2 : cs[i]? = some (.int .u8 (ks[i] : Int)) := by
    have := congrArg (fun l => l[i]?) hcs
    simpa [List.getElem?_eq_getElem hi] using this
  rw [h2] at h1
  have h3 : x = .v (.int .u8 (ks[i] : Int)) := by
    simp only [List.getElem?_map, List.getElem?_eq_getElem hi, Option.map_some, Option.some.injEq] at hx
    exact hx.symm
  rw [h3, conc_v]
  simpa [World.cell?, hb] using h1
theorem laid_one {W : World} {l : List (String × DataW Unit)} (hp : (l.filter fun x => x.2.handleName?.isSome) = []) (h : laidMetH Tryz.prog l W) : ∃ ps, DataW.LaidVars Tryz.prog W l ps ∧ ∀ b off, MemPlace.cell b off ∈ ps → (∃ c t, W.heap[b]? = some (.cells c t (0, 0))) := by
  unfold laidMetH at h
  rw [hp] at h
  obtain ⟨ps, h1, -, h2⟩ := h
  exact ⟨ps, h1, fun b off hm => (h2 b off hm).1⟩
def H64 : List Hp := [⟨1, ⟨tab64, 0⟩⟩]
def H32 : List Hp := [⟨2, ⟨tab32, 0⟩⟩]
theorem hp_of {W : World} {H : List Hp} (hs : Srt H 4096) (hb : ∀ b x, hget H b = some x → BkOK id0 W b x ∧ ∃ ks : List Nat, x.cells = ks.map fun k : Nat => SV.v (.int .u8 (k : Int))) : HpOK id0 4096 H W where
  srt := hs
  sc := fun b x hx c hc => by
    obtain ⟨-, ks, hk⟩ := hb b x hx
    rw [hk] at hc
    obtain ⟨k, -, rfl⟩ := List.mem_map.1 hc
    exact Sc.v _ _
  bk := fun b x hx => (hb b x hx).1
  inj := fun b b' x y _ _ h => h
  glob := fun g _ => rfl
  big := Nat.le_refl _
theorem hp64 {W : World} (h : laidMetH Tryz.prog [("math/bits.deBruijn64tab", Rows.laid_math_bits_deBruijn64tab)] W) : HpOK id0 4096 H64 W := by
  obtain ⟨ps, h1, h2⟩ := laid_one (by kernel_rfl) h
  obtain ⟨hb, -⟩ := laid_block (ks := n64) (tab := tab64) (t := 364) (e := 5) g64 (by kernel_rfl) (by kernel_rfl) (by kernel_rfl) (by kernel_rfl) (by kernel_rfl) (by kernel_rfl) (by decide) rfl h1 h2
  refine hp_of ⟨by decide, trivial⟩ fun b x hx => ?_
  rw [show H64 = [⟨1, ⟨tab64, 0⟩⟩] from rfl, hget_cons] at hx
  split at hx
  · rename_i e; subst e; cases hx; exact ⟨hb, n64, rfl⟩
  · cases hx
theorem hp32 {W : World} (h : laidMetH Tryz.prog [("math/bits.deBruijn32tab", Rows.laid_math_bits_deBruijn32tab)] W) : HpOK id0 4096 H32 W := by
  obtain ⟨ps, h1, h2⟩ := laid_one (by kernel_rfl) h
  obtain ⟨hb, -⟩ := laid_block (ks := n32) (tab := tab32) (t := 368) (e := 5) g32 (by kernel_rfl) (by kernel_rfl) (by kernel_rfl) (by kernel_rfl) (by kernel_rfl) (by kernel_rfl) (by decide) rfl h1 h2
  refine hp_of ⟨by decide, trivial⟩ fun b x hx => ?_
  rw [show H32 = [⟨2, ⟨tab32, 0⟩⟩] from rfl, hget_cons] at hx
  split at hx
  · rename_i e; subst e; cases hx; exact ⟨hb, n32, rfl⟩
  · cases hx
theorem hpBoth {W : World} (h : laidMetH Tryz.prog [("math/bits.deBruijn32tab", Rows.laid_math_bits_deBruijn32tab), ("math/bits.deBruijn64tab", Rows.laid_math_bits_deBruijn64tab)] W) : HpOK id0 4096 laidH W := by
  obtain ⟨ps, h1, h2⟩ := laid_one (by kernel_rfl) h
  obtain ⟨hb2, q, h3, h4⟩ := laid_block (ks := n32) (tab := tab32) (t := 368) (e := 5) g32 (by kernel_rfl) (by kernel_rfl) (by kernel_rfl) (by kernel_rfl) (by kernel_rfl) (by kernel_rfl) (by decide) rfl h1 h2
  obtain ⟨hb1, -⟩ := laid_block (ks := n64) (tab := tab64) (t := 364) (e := 5) g64 (by kernel_rfl) (by kernel_rfl) (by kernel_rfl) (by kernel_rfl) (by kernel_rfl) (by kernel_rfl) (by decide) rfl h3 fun b off hm => h2 b off (h4 _ hm)
  refine hp_of ⟨by decide, by decide, trivial⟩ fun b x hx => ?_
  rw [show laidH = [⟨2, ⟨tab32, 0⟩⟩, ⟨1, ⟨tab64, 0⟩⟩] from rfl, hget_cons] at hx
  split at hx
  · rename_i e; subst e; cases hx; exact ⟨hb2, n32, rfl⟩
  · rw [hget_cons] at hx
    split at hx
    · rename_i e; subst e; cases hx; exact ⟨hb1, n64, rfl⟩
    · cases hx
theorem saysTrue_eq {x : Option SV} (h : saysTrue x = true) : x = some (.v (.bool true)) := by
  unfold saysTrue at h
  split at h
  · subst h; rfl
  · cases h
theorem mixed : Tryz.prog.follows .mixedOrders = true := by kernel_rfl
/-- A call that the runner answers by 'true' answers true, and what was there stays. -/
theorem run_true {n f : Nat} {args : List SV} {H : List Hp} {fn : Func} {c : Code} (h : saysTrue (exRun Tryz.prog oraF n f args H) = true) (hf : Tryz.prog.funcs[f]? = some fn) (hb : fn.body = some c) (hn : (fn.name == "runtime.NumGoroutine") = false) {ρ : Va} {w : World} (hh : HpOK ρ 4096 H w) (ha : ∀ x ∈ args, Sc 4096 x) :
    Calls Tryz.prog f (args.map (SV.conc ρ)).toArray w fun e w' => e = .returned (.bool true) ∧ Below w.heap.size w w' := by
  have := run_ok oraF_ok mixed (saysTrue_eq h) hh ha
  rw [call_run hf hb hn] at this
  refine Calls.mono this fun e w' ⟨u, h1, ρ', h2, h3⟩ => ?_
  rw [conc_v] at h2
  subst h2
  exact ⟨h1, h3⟩
end Go.Proofs.YtneakieigiafpaaGreatDoor

/- The runner's oracle with a table of calls that were run before: each entry is checked by the runner itself. -/
namespace Go.Proofs.YtneakieigiafpaaGreatDoor
open Go.Ex Go.RowKit
set_option maxRecDepth 100000

/-! ### Are two values the same? -/
noncomputable def eqB (a b : Bool) : Bool := ifB a b (ifB b false true)
noncomputable def eqBytes (a : List UInt8) : List UInt8 → Bool := List.rec (fun b => List.rec true (fun _ _ _ => false) b) (fun x _ ih b => List.rec false (fun y l _ => ifB (Nat.beq x.toNat y.toNat) (ih l) false) b) a
noncomputable def eqKind (a b : IntKind) : Bool := decide (a = b)
/-- (of values without parts) -/
noncomputable def eqV0 (x y : Value) : Bool := match x, y with
  | .bool a, .bool b => eqB a b
  | .int k (.ofNat a), .int l (.ofNat b) => ifB (Nat.beq a b) (eqKind k l) false
  | .int k (.negSucc a), .int l (.negSucc b) => ifB (Nat.beq a b) (eqKind k l) false
  | .float .f64 a, .float .f64 b => Nat.beq a b
  | .complex .f64 a b, .complex .f64 c d => ifB (Nat.beq a c) (Nat.beq b d) false
  | .string a, .string b => eqBytes a.data.toList b.data.toList
  | _, _ => false
noncomputable def eqL0 (a : List Value) : List Value → Bool := List.rec (fun b => List.rec true (fun _ _ _ => false) b) (fun x _ ih b => List.rec false (fun y l _ => ifB (eqV0 x y) (ih l) false) b) a
noncomputable def eqV (x y : Value) : Bool := match x, y with
  | .agg a, .agg b => eqL0 a.toList b.toList
  | x, y => eqV0 x y
noncomputable def eqL (a : List Value) : List Value → Bool := List.rec (fun b => List.rec true (fun _ _ _ => false) b) (fun x _ ih b => List.rec false (fun y l _ => ifB (eqV x y) (ih l) false) b) a
theorem eqB_eq {a b : Bool} (h : eqB a b = true) : a = b := by cases a <;> cases b <;> first | rfl | cases h
theorem eqBytes_eq : ∀ {a b : List UInt8}, eqBytes a b = true → a = b
  | [], [], _ => rfl
  | [], _ :: _, h => by cases h
  | _ :: _, [], h => by cases h
  | x :: a, y :: b, h => by
    obtain ⟨h1, h2⟩ := ifB_and (show ifB (Nat.beq x.toNat y.toNat) (eqBytes a b) false = true from h)
    rw [eqBytes_eq h2, UInt8.toNat_inj.1 (Nat.eq_of_beq_eq_true h1)]
theorem eqV0_eq {x y : Value} (h : eqV0 x y = true) : x = y := by
  unfold eqV0 at h
  split at h
  · rw [eqB_eq h]
  · obtain ⟨h1, h2⟩ := ifB_and h
    rw [Nat.eq_of_beq_eq_true h1, of_decide_eq_true h2]
  · obtain ⟨h1, h2⟩ := ifB_and h
    rw [Nat.eq_of_beq_eq_true h1, of_decide_eq_true h2]
  · rw [Nat.eq_of_beq_eq_true h]
  · obtain ⟨h1, h2⟩ := ifB_and h
    rw [Nat.eq_of_beq_eq_true h1, Nat.eq_of_beq_eq_true h2]
  · rename_i a b
    have := eqBytes_eq h
    obtain ⟨⟨a⟩⟩ := a
    obtain ⟨⟨b⟩⟩ := b
    simp only [] at this
    rw [this]
  · cases h
theorem eqL0_eq : ∀ {a b : List Value}, eqL0 a b = true → a = b
  | [], [], _ => rfl
  | [], _ :: _, h => by cases h
  | _ :: _, [], h => by cases h
  | x :: a, y :: b, h => by
    obtain ⟨h1, h2⟩ := ifB_and (show ifB (eqV0 x y) (eqL0 a b) false = true from h)
    rw [eqL0_eq h2, eqV0_eq h1]
theorem eqV_eq {x y : Value} (h : eqV x y = true) : x = y := by
  unfold eqV at h
  split at h
  · rename_i a b
    have := eqL0_eq h
    obtain ⟨a⟩ := a
    obtain ⟨b⟩ := b
    simp only [] at this
    rw [this]
  · exact eqV0_eq h
theorem eqL_eq : ∀ {a b : List Value}, eqL a b = true → a = b
  | [], [], _ => rfl
  | [], _ :: _, h => by cases h
  | _ :: _, [], h => by cases h
  | x :: a, y :: b, h => by
    obtain ⟨h1, h2⟩ := ifB_and (show ifB (eqV x y) (eqL a b) false = true from h)
    rw [eqL_eq h2, eqV_eq h1]

/-! ### Tables -/
/-- A call and its answer: one value, or several. -/
structure En where
  f : Nat
  key : List Value
  res : List Value
noncomputable def asAll (l : List Value) : List SV := List.rec [] (fun x _ ih => .v x :: ih) l
noncomputable def En.ans (e : En) : SV := oneS (asAll e.res)
/-- An answer's values, one by one. -/
noncomputable def parts (x : SV) : Option (List Value) := match x with
  | .tup l => flatA l
  | x => bindO x.flat fun u => some [u]
/-- An answer of several values is a tuple, of one it is none. -/
noncomputable def shape (x : SV) (n : Nat) : Bool := match x with
  | .tup _ => ifB (Nat.beq n (nat_lit 1)) false true
  | _ => Nat.beq n (nat_lit 1)
noncomputable def eqAns (x : Option SV) (res : List Value) : Bool := Option.rec false (fun x => ifB (shape x (len (asAll res))) (Option.rec false (fun l => eqL l res) (parts x)) false) x
theorem asAll_eq (l : List Value) : asAll l = l.map .v := by
  induction l with
  | nil => rfl
  | cons x l ih => exact congrArg (SV.v x :: ·) ih
theorem ans_eq {x : Option SV} {res : List Value} (h : eqAns x res = true) : ∃ y, x = some y ∧ ∀ ρ, y.conc ρ = (oneS (asAll res)).conc ρ := by
  cases x with
  | none => cases h
  | some y =>
    refine ⟨y, rfl, fun ρ => ?_⟩
    obtain ⟨h1, h2⟩ := ifB_and (show ifB (shape y (len (asAll res))) (Option.rec false (fun l => eqL l res) (parts y)) false = true from h)
    cases hp : parts y with
    | none => rw [hp] at h2; cases h2
    | some l =>
      rw [hp] at h2
      have hl := eqL_eq (show eqL l res = true from h2)
      subst hl
      rw [len_eq, asAll_eq, List.length_map] at h1
      unfold parts at hp
      split at hp
      · rename_i cs
        have hc := flatA_conc hp ρ
        have hne : l.length ≠ 1 := fun hl => by
          replace h1 : ifB (Nat.beq l.length 1) false true = true := h1
          rw [hl] at h1
          cases h1
        rw [asAll_eq, conc_tup, hc]
        match l, hne with
        | [], _ => simp [oneS, conc_tup]
        | [_], h => exact absurd rfl h
        | a :: b :: l, _ => simp [oneS, conc_tup, conc_v, Function.comp_def]
      · obtain ⟨u, hu, h3⟩ := bindO_eq.1 hp
        cases h3
        rw [flat_conc hu ρ]
        show u = (SV.v u).conc ρ
        rw [conc_v]
theorem ans_sc (e : En) (n : Nat) : Sc n e.ans := by
  have h1 : ∀ x ∈ asAll e.res, Sc n x := fun x hx => by
    rw [asAll_eq] at hx
    obtain ⟨y, -, rfl⟩ := List.mem_map.1 hx
    exact Sc.v _ _
  unfold En.ans oneS
  split
  · exact h1 _ (by simp [*])
  · exact Sc.tup h1
/-- What an entry says of the code, in a world where the small table is laid. -/
noncomputable def EnOK (e : En) : Prop := ∀ w, HpOK id0 4096 H32 w → SemVal Tryz.prog ((callFunc e.f e.key.toArray).run Tryz.prog w) fun u w' => u = e.ans.conc id0 ∧ Below w.heap.size w w'
noncomputable def isByte (x : SV) (k : Nat) : Bool := match x with
  | .v (.int .u8 (.ofNat n)) => Nat.beq n k
  | _ => false
theorem isByte_eq {x : SV} {k : Nat} (h : isByte x k = true) : x = .v (.int .u8 (k : Int)) := by
  unfold isByte at h
  split at h
  · rw [Nat.eq_of_beq_eq_true h]; rfl
  · cases h
noncomputable def eqCells (a : List SV) (l : List Nat) : Bool := List.rec (fun b => List.rec true (fun _ _ _ => false) b) (fun x _ ih b => List.rec false (fun k l _ => ifB (isByte x k) (ih l) false) b) a l
theorem eqCells_eq : ∀ {a : List SV} {l : List Nat}, eqCells a l = true → a = l.map fun k : Nat => SV.v (.int .u8 (k : Int))
  | [], [], _ => rfl
  | [], _ :: _, h => by cases h
  | _ :: _, [], h => by cases h
  | x :: a, k :: l, h => by
    obtain ⟨h1, h2⟩ := ifB_and (show ifB (isByte x k) (eqCells a l) false = true from h)
    rw [eqCells_eq h2, isByte_eq h1]
    rfl
noncomputable def hasTab (heap : List Hp) : Bool := Option.rec false (fun b => eqCells b.cells n32) (hget heap (nat_lit 2))
theorem hasTab_eq {heap : List Hp} (h : hasTab heap = true) {ρ : Va} {n : Nat} {w : World} (hh : HpOK ρ n heap w) : HpOK id0 4096 H32 w := by
  unfold hasTab at h
  cases hb : hget heap 2 with
  | none => rw [hb] at h; cases h
  | some b =>
    rw [hb] at h
    have hc := eqCells_eq (show eqCells b.cells n32 = true from h)
    obtain ⟨arr, e, fz, h1, h2, h3, -⟩ := hh.bk 2 b hb
    rw [hh.glob 2 (by decide)] at h1
    refine hp_of ⟨by decide, trivial⟩ fun g x hx => ?_
    rw [show H32 = [⟨2, ⟨tab32, 0⟩⟩] from rfl, hget_cons] at hx
    split at hx
    · rename_i eg
      subst eg
      cases hx
      refine ⟨⟨arr, e, fz, h1, fun i y hy => ?_, h3, fun h => absurd rfl h⟩, n32, rfl⟩
      have hy' : b.cells[i]? = some y := by rw [hc]; exact hy
      have := h2 i y hy'
      rw [this]
      rw [hc, List.getElem?_map] at hy'
      cases hk : n32[i]? with
      | none => rw [hk] at hy'; cases hy'
      | some k => rw [hk] at hy'; cases hy'; rw [conc_v, conc_v]
    · cases hx
noncomputable def findE (us : List Value) (t : List En) : Option SV := List.rec none (fun e _ ih => ifB (eqL us e.key) (some e.ans) ih) t
/-- The entries of a function (laid bare once for each function). -/
noncomputable def entries (t : List En) (f : Nat) : List En := List.rec [] (fun e _ ih => ifB (Nat.beq e.f f) (e :: ih) ih) t
noncomputable def findM (t : List En) (f : Nat) (l : List SV) (heap : List Hp) : Option SV := List.rec none (fun _ _ _ => bindO (flatA l) fun us => ifB (hasTab heap) (findE us (entries t f)) none) (entries t f)
noncomputable def oraM (t : List En) (f : Nat) (l : List SV) (heap : List Hp) : Option SV := Option.rec (findM t f l heap) (fun v => some v) (oraG f l heap)
theorem entries_mem {t : List En} {f : Nat} {e : En} (h : e ∈ entries t f) : e ∈ t ∧ e.f = f := by
  induction t with
  | nil => cases h
  | cons a t ih =>
    replace h : e ∈ ifB (Nat.beq a.f f) (a :: entries t f) (entries t f) := h
    rcases beq_dec a.f f with ⟨e1, e2⟩ | ⟨e1, -⟩
    · rw [e1, ifB_true] at h
      rcases List.mem_cons.1 h with rfl | h
      · exact ⟨List.mem_cons_self, e2⟩
      · exact ⟨List.mem_cons_of_mem _ (ih h).1, (ih h).2⟩
    · rw [e1, ifB_false] at h
      exact ⟨List.mem_cons_of_mem _ (ih h).1, (ih h).2⟩
theorem findE_eq {us : List Value} {t : List En} {v : SV} (h : findE us t = some v) : ∃ e ∈ t, us = e.key ∧ v = e.ans := by
  induction t with
  | nil => cases h
  | cons a t ih =>
    replace h : ifB (eqL us a.key) (some a.ans) (findE us t) = some v := h
    cases he : eqL us a.key with
    | true => rw [he] at h; cases h; exact ⟨a, List.mem_cons_self, eqL_eq he, rfl⟩
    | false => rw [he] at h; obtain ⟨e, h1, h2⟩ := ih h; exact ⟨e, List.mem_cons_of_mem _ h1, h2⟩
theorem oraM_ok {t : List En} (ht : ∀ e ∈ t, EnOK e) : OraOK Tryz.prog (oraM t) := by
  intro f l heap v h
  unfold oraM at h
  cases h0 : oraG f l heap with
  | some u => rw [h0] at h; cases h; exact oraG_ok f l heap _ h0
  | none =>
    rw [h0] at h
    replace h : findM t f l heap = some v := h
    unfold findM at h
    cases hen : entries t f with
    | nil => rw [hen] at h; cases h
    | cons a r =>
      rw [hen] at h
      obtain ⟨us, hus, h⟩ := bindO_eq.1 (show (bindO (flatA l) fun us => ifB (hasTab heap) (findE us (a :: r)) none) = some v from h)
      cases hT : hasTab heap with
      | false => rw [hT] at h; cases h
      | true =>
        rw [hT, ifB_true, ← hen] at h
        obtain ⟨e, h1, h2, rfl⟩ := findE_eq h
        obtain ⟨h3, rfl⟩ := entries_mem h1
        refine ⟨fun n => ans_sc e n, fun ρ n w hh _ => ?_⟩
        rw [flatA_conc hus ρ, h2]
        refine (ht e h3 w (hasTab_eq hT hh)).mono fun u w' ⟨h4, h5⟩ => ⟨?_, h5⟩
        rw [h4]
        exact ((ans_sc e 0) ρ id0 (fun b hb => by omega))
/-- An entry is run: by the kernel. -/
noncomputable def runsTo (t : List En) (e : En) : Bool := eqAns (exRun Tryz.prog (oraM t) 3000 e.f (asAll e.key) H32) e.res
theorem runsTo_ok {t : List En} (ht : ∀ e ∈ t, EnOK e) {e : En} (h : runsTo t e = true) : EnOK e := by
  obtain ⟨y, h1, h2⟩ := ans_eq h
  intro w hw
  have := run_ok (oraM_ok ht) mixed h1 hw (fun x hx => by
    rw [asAll_eq] at hx
    obtain ⟨y, -, rfl⟩ := List.mem_map.1 hx
    exact Sc.v _ _)
  have e1 : (List.map (SV.conc id0) (asAll e.key)).toArray = e.key.toArray := by
    rw [asAll_eq]
    simp [Function.comp_def, conc_v]
  rw [e1] at this
  refine this.mono fun u w' ⟨ρ', hu, hb⟩ => ⟨?_, hb⟩
  rw [hu, h2 ρ']
  exact (ans_sc e 0) id0 ρ' (fun b hb => by omega)
theorem all_nil : ∀ e ∈ ([] : List En), EnOK e := fun e h => by cases h
theorem all_cons {a : En} {t : List En} (h : EnOK a) (ht : ∀ e ∈ t, EnOK e) : ∀ e ∈ a :: t, EnOK e := fun e he => by
  rcases List.mem_cons.1 he with rfl | he
  · exact h
  · exact ht e he
theorem all_app {s t : List En} (hs : ∀ e ∈ s, EnOK e) (ht : ∀ e ∈ t, EnOK e) : ∀ e ∈ s ++ t, EnOK e := fun e he => by
  rcases List.mem_append.1 he with he | he
  · exact hs e he
  · exact ht e he
/-- A call that the runner answers by 'true', calls that were run before taken off a table. -/
theorem run_trueM {t : List En} (ht : ∀ e ∈ t, EnOK e) {n f : Nat} {args : List SV} {H : List Hp} {fn : Func} {c : Code} (h : saysTrue (exRun Tryz.prog (oraM t) n f args H) = true) (hf : Tryz.prog.funcs[f]? = some fn) (hb : fn.body = some c) (hn : (fn.name == "runtime.NumGoroutine") = false) {ρ : Va} {w : World} (hh : HpOK ρ 4096 H w) (ha : ∀ x ∈ args, Sc 4096 x) :
    Calls Tryz.prog f (args.map (SV.conc ρ)).toArray w fun e w' => e = .returned (.bool true) ∧ Below w.heap.size w w' := by
  have := run_ok (oraM_ok ht) mixed (saysTrue_eq h) hh ha
  rw [call_run hf hb hn] at this
  refine Calls.mono this fun e w' ⟨u, h1, ρ', h2, h3⟩ => ?_
  rw [conc_v] at h2
  subst h2
  exact ⟨h1, h3⟩
end Go.Proofs.YtneakieigiafpaaGreatDoor
