/- What the condition on the laid tables gives the runner; a closed call that answers true. -/
import Derived.Test.YtneakieigiafpaaGreatDoorExP
import Derived.Test.YtneakieigiafpaaGreatDoorRows
import Derived.OpenShut
import Derived.LaidMore
import Derived.ProofKit
import Derived.Stop.Joined
namespace Go.Proofs.YtneakieigiafpaaGreatDoor
open Go.Ex Go.RowKit Go.ChangeShapes Go.WideShapes Go.ChangeAt Go.WideMaps Go.WideElems
set_option maxRecDepth 100000

theorem bytes_of {P : Program} {W : World} {H : Type} {enc : TypeId × Value → H} {t e : TypeId} {n base fuel : Nat} {spare : Nat → Bool} {held : Bool} {cs : List Value} {p : List MemPlace} {ks : List Nat} (ht : P.underlying t = some (.array n e)) (he : P.underlying e = some (.int .u8)) (hce : P.cellsOf e = 1) (hct : P.cellsOf t = n)
    (h : DataW.trod enc P W base spare held fuel t cs = some (.agg (ks.map fun k : Nat => .lit (.int .u8 (k : Int))), p)) : cs = ks.map fun k : Nat => Value.int .u8 (k : Int) := by
  obtain ⟨xs, m, rfl, hx, hlen, hn, hel⟩ := DataW.trod_array ht h
  simp only [Prod.mk.injEq, DataW.agg.injEq] at hx
  have hk : ks.length = n := by
    have := congrArg List.length hx.1
    simpa [hn] using this
  refine List.ext_getElem? fun i => ?_
  by_cases hi : i < n
  · have h1 := hel i hi
    rw [hce, Nat.mul_one] at h1
    have hix : i < xs.length := by omega
    have hxi : xs[i]? = some xs[i] := List.getElem?_eq_getElem hix
    rw [hxi] at h1
    obtain ⟨k, e1, e2, -⟩ := DataW.trod_int he h1
    have e3 : cs[i]? = some (.int .u8 k) := by
      have := congrArg (fun l => l[0]?) e1
      simpa [List.getElem?_take, List.getElem?_drop] using this
    have hik : i < ks.length := by omega
    have e4 := congrArg (fun l => l[i]?) hx.1
    simp only [List.getElem?_map, hxi, List.getElem?_eq_getElem hik, Option.map_some, e2] at e4
    injection e4 with e4
    injection e4 with e4
    injection e4 with e4 e5
    rw [e3, List.getElem?_map, List.getElem?_eq_getElem hik, Option.map_some, e5]
  · have h1 : cs.length ≤ i := by omega
    have h2 : ks.length ≤ i := by omega
    simp [h1, h2]
def n64 : List Nat := [0, 1, 56, 2, 57, 49, 28, 3, 61, 58, 42, 50, 38, 29, 17, 4, 62, 47, 59, 36, 45, 43, 51, 22, 53, 39, 33, 30, 24, 18, 12, 5, 63, 55, 48, 27, 60, 41, 37, 16, 46, 35, 44, 21, 52, 32, 23, 11, 54, 26, 40, 15, 34, 20, 31, 10, 25, 14, 19, 9, 13, 8, 7, 6]
def n32 : List Nat := [0, 1, 28, 2, 29, 14, 24, 3, 30, 22, 20, 15, 25, 17, 4, 8, 31, 27, 13, 23, 21, 19, 16, 7, 26, 12, 18, 6, 11, 5, 10, 9]
theorem g64 : Tryz.prog.globalNamed "math/bits.deBruijn64tab" = some 1 := by kernel_rfl
theorem g32 : Tryz.prog.globalNamed "math/bits.deBruijn32tab" = some 2 := by kernel_rfl
def id0 : Va := ⟨fun b => b, fun _ => 0⟩
theorem laid_block {W : World} {l : List (String × DataW Unit)} {ps : List MemPlace} {name : String} {d : DataW Unit} {g : Nat} {ks : List Nat} {t e : TypeId} {tab : List SV} (hg : Tryz.prog.globalNamed name = some g) (htt : (Tryz.prog.globals[g]?).map (·.type) = some t) (hd : d = .agg (ks.map fun k : Nat => .lit (.int .u8 (k : Int)))) (ht : Tryz.prog.underlying t = some (.array ks.length e)) (he : Tryz.prog.underlying e = some (.int .u8)) (hce : Tryz.prog.cellsOf e = 1) (hct : Tryz.prog.cellsOf t = ks.length) (hpos : 0 < ks.length) (htab : tab = ks.map fun k : Nat => SV.v (.int .u8 (k : Int)))
    (hl : DataW.LaidVars Tryz.prog W ((name, d) :: l) ps) (hfz : ∀ b off, MemPlace.cell b off ∈ ps → (∃ c t, W.heap[b]? = some (.cells c t (0, 0)))) : BkOK id0 W g ⟨tab, 0⟩ ∧ ∃ q, DataW.LaidVars Tryz.prog W l q ∧ ∀ x ∈ q, x ∈ ps := by
  obtain ⟨g', t', cs, fuel, p, q, hg', ht', hv, htr, hrest, rfl⟩ := hl
  obtain rfl := Option.some.inj (hg.symm.trans hg')
  obtain rfl := Option.some.inj (htt.symm.trans ht')
  subst hd
  have hcs := bytes_of ht he hce hct htr
  have hlen : cs.size = ks.length := by rw [← Array.length_toList, hcs]; simp
  refine ⟨?_, q, hrest, fun x hx => List.mem_append_right _ hx⟩
  have hcell := World.var?_cell hg' hv
  have hmem : MemPlace.cell g 0 ∈ MemPlace.row ⟨g, 0, none⟩ cs.size ++ p ++ q := by
    refine List.mem_append_left _ (List.mem_append_left _ ?_)
    unfold MemPlace.row
    rw [List.mem_map]
    exact ⟨0, by rw [List.mem_range]; omega, by simp⟩
  obtain ⟨c, t'', hb⟩ := hfz g 0 hmem
  refine ⟨c, t'', (0, 0), hb, fun i x hx => ?_, .inl rfl, fun h => absurd rfl h⟩
  subst htab
  have h1 := hcell i
  have hi : i < ks.length := by have := (List.getElem?_eq_some_iff.1 hx).1; simpa using this
  have h2 : cs[i]? = some (.int .u8 (ks[i] : Int)) := by
    have := congrArg (fun l => l[i]?) hcs
    simpa [List.getElem?_eq_getElem hi] using this
  rw [h2] at h1
  have h3 : x = .v (.int .u8 (ks[i] : Int)) := by
    simp only [List.getElem?_map, List.getElem?_eq_getElem hi, Option.map_some, Option.some.injEq] at hx
    exact hx.symm
  rw [h3, conc_v]
  simpa [World.cell?, hb] using h1
theorem laid_one {W : World} {l : List (String × DataW Unit)} (hp : (l.filter fun x => x.2.handleName?.isSome) = []) (h : laidMetH Tryz.prog l W) : ∃ ps, DataW.LaidVars Tryz.prog W l ps ∧ ∀ b off, MemPlace.cell b off ∈ ps → (∃ c t, W.heap[b]? = some (.cells c t (0, 0))) := by
  unfold laidMetH at h
  rw [hp] at h
  obtain ⟨ps, h1, -, h2⟩ := h
  exact ⟨ps, h1, fun b off hm => (h2 b off hm).1⟩
def H64 : List Hp := [⟨1, ⟨tab64, 0⟩⟩]
def H32 : List Hp := [⟨2, ⟨tab32, 0⟩⟩]
theorem hp_of {W : World} {H : List Hp} (hs : Srt H 4096) (hb : ∀ b x, hget H b = some x → BkOK id0 W b x ∧ ∃ ks : List Nat, x.cells = ks.map fun k : Nat => SV.v (.int .u8 (k : Int))) : HpOK id0 4096 H W where
  srt := hs
  sc := fun b x hx c hc => by
    obtain ⟨-, ks, hk⟩ := hb b x hx
    rw [hk] at hc
    obtain ⟨k, -, rfl⟩ := List.mem_map.1 hc
    exact Sc.v _ _
  bk := fun b x hx => (hb b x hx).1
  inj := fun b b' x y _ _ h => h
  glob := fun g _ => rfl
  big := Nat.le_refl _
theorem hp64 {W : World} (h : laidMetH Tryz.prog [("math/bits.deBruijn64tab", Rows.laid_math_bits_deBruijn64tab)] W) : HpOK id0 4096 H64 W := by
  obtain ⟨ps, h1, h2⟩ := laid_one (by kernel_rfl) h
  obtain ⟨hb, -⟩ := laid_block (ks := n64) (tab := tab64) (t := 364) (e := 5) g64 (by kernel_rfl) (by kernel_rfl) (by kernel_rfl) (by kernel_rfl) (by kernel_rfl) (by kernel_rfl) (by decide) rfl h1 h2
  refine hp_of ⟨by decide, trivial⟩ fun b x hx => ?_
  rw [show H64 = [⟨1, ⟨tab64, 0⟩⟩] from rfl, hget_cons] at hx
  split at hx
  · rename_i e; subst e; cases hx; exact ⟨hb, n64, rfl⟩
  · cases hx
theorem hp32 {W : World} (h : laidMetH Tryz.prog [("math/bits.deBruijn32tab", Rows.laid_math_bits_deBruijn32tab)] W) : HpOK id0 4096 H32 W := by
  obtain ⟨ps, h1, h2⟩ := laid_one (by kernel_rfl) h
  obtain ⟨hb, -⟩ := laid_block (ks := n32) (tab := tab32) (t := 368) (e := 5) g32 (by kernel_rfl) (by kernel_rfl) (by kernel_rfl) (by kernel_rfl) (by kernel_rfl) (by kernel_rfl) (by decide) rfl h1 h2
  refine hp_of ⟨by decide, trivial⟩ fun b x hx => ?_
  rw [show H32 = [⟨2, ⟨tab32, 0⟩⟩] from rfl, hget_cons] at hx
  split at hx
  · rename_i e; subst e; cases hx; exact ⟨hb, n32, rfl⟩
  · cases hx
theorem hpBoth {W : World} (h : laidMetH Tryz.prog [("math/bits.deBruijn32tab", Rows.laid_math_bits_deBruijn32tab), ("math/bits.deBruijn64tab", Rows.laid_math_bits_deBruijn64tab)] W) : HpOK id0 4096 laidH W := by
  obtain ⟨ps, h1, h2⟩ := laid_one (by kernel_rfl) h
  obtain ⟨hb2, q, h3, h4⟩ := laid_block (ks := n32) (tab := tab32) (t := 368) (e := 5) g32 (by kernel_rfl) (by kernel_rfl) (by kernel_rfl) (by kernel_rfl) (by kernel_rfl) (by kernel_rfl) (by decide) rfl h1 h2
  obtain ⟨hb1, -⟩ := laid_block (ks := n64) (tab := tab64) (t := 364) (e := 5) g64 (by kernel_rfl) (by kernel_rfl) (by kernel_rfl) (by kernel_rfl) (by kernel_rfl) (by kernel_rfl) (by decide) rfl h3 fun b off hm => h2 b off (h4 _ hm)
  refine hp_of ⟨by decide, by decide, trivial⟩ fun b x hx => ?_
  rw [show laidH = [⟨2, ⟨tab32, 0⟩⟩, ⟨1, ⟨tab64, 0⟩⟩] from rfl, hget_cons] at hx
  split at hx
  · rename_i e; subst e; cases hx; exact ⟨hb2, n32, rfl⟩
  · rw [hget_cons] at hx
    split at hx
    · rename_i e; subst e; cases hx; exact ⟨hb1, n64, rfl⟩
    · cases hx
theorem saysTrue_eq {x : Option SV} (h : saysTrue x = true) : x = some (.v (.bool true)) := by
  unfold saysTrue at h
  split at h
  · subst h; rfl
  · cases h
theorem mixed : Tryz.prog.follows .mixedOrders = true := by kernel_rfl
/-- A call that the runner answers by 'true' answers true, and what was there stays. -/
theorem run_true {n f : Nat} {args : List SV} {H : List Hp} {fn : Func} {c : Code} (h : saysTrue (exRun Tryz.prog oraF n f args H) = true) (hf : Tryz.prog.funcs[f]? = some fn) (hb : fn.body = some c) (hn : (fn.name == "runtime.NumGoroutine") = false) {ρ : Va} {w : World} (hh : HpOK ρ 4096 H w) (ha : ∀ x ∈ args, Sc 4096 x) :
    Calls Tryz.prog f (args.map (SV.conc ρ)).toArray w fun e w' => e = .returned (.bool true) ∧ Below w.heap.size w w' := by
  have := run_ok oraF_ok mixed (saysTrue_eq h) hh ha
  rw [call_run hf hb hn] at this
  refine Calls.mono this fun e w' ⟨u, h1, ρ', h2, h3⟩ => ?_
  rw [conc_v] at h2
  subst h2
  exact ⟨h1, h3⟩
end Go.Proofs.YtneakieigiafpaaGreatDoor
