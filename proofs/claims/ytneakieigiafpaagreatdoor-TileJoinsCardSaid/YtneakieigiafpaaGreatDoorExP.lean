/- The runner's oracle: the float functions by their contracts (level O). -/
import Derived.Test.YtneakieigiafpaaGreatDoorExO
import Derived.Test.YtneakieigiafpaaGreatDoorBalX
namespace Go.Proofs.YtneakieigiafpaaGreatDoor
open Go.Ex Go.RowKit
set_option maxRecDepth 100000

/-! ### Arguments and answers -/
def fl1 {α : Type} (l : List SV) (K : Nat → Option α) : Option α := match l with
  | [.v (.float .f64 x)] => K x
  | _ => none
def fl2 {α : Type} (l : List SV) (K : Nat → Nat → Option α) : Option α := match l with
  | [.v (.float .f64 x), .v (.float .f64 y)] => K x y
  | _ => none
def co1 {α : Type} (l : List SV) (K : Co → Option α) : Option α := match l with
  | [.v (.complex .f64 a b)] => K ⟨a, b⟩
  | _ => none
def co2 {α : Type} (l : List SV) (K : Co → Co → Option α) : Option α := match l with
  | [.v (.complex .f64 a b), .v (.complex .f64 c d)] => K ⟨a, b⟩ ⟨c, d⟩
  | _ => none
def baC {α : Type} (l : List SV) (K : Ba → Option α) : Option α := match l with
  | [.v (.complex .f64 a b), .v (.float .f64 r)] => K ⟨⟨a, b⟩, r⟩
  | _ => none
noncomputable def baV {α : Type} (x : SV) (K : Ba → Option α) : Option α := guardO (isAggV x) (baC x.cells K)
noncomputable def ba1 {α : Type} (l : List SV) (K : Ba → Option α) : Option α := match l with
  | [x] => baV x K
  | _ => none
noncomputable def ba2 {α : Type} (l : List SV) (K : Ba → Ba → Option α) : Option α := match l with
  | [x, y] => baV x fun a => baV y fun b => K a b
  | _ => none
noncomputable def flR (x : Nat) : Option SV := force x fun x => some (.v (.float .f64 x))
noncomputable def coR (z : Co) : Option SV := force z.re fun a => force z.im fun b => some (.v (.complex .f64 a b))
noncomputable def baR (b : Ba) : Option SV := force b.c.re fun x => force b.c.im fun y => force b.r fun r => some (.agg [.v (.complex .f64 x y), .v (.float .f64 r)])
noncomputable def blR (b : Bool) : Option SV := ifB b (some (.v (.bool true))) (some (.v (.bool false)))
noncomputable def fbR (p : Nat × Bool) : Option SV := force p.1 fun q => ifB p.2 (some (.tup [.v (.float .f64 q), .v (.bool true)])) (some (.tup [.v (.float .f64 q), .v (.bool false)]))
theorem fl1_eq {α : Type} {l : List SV} {K : Nat → Option α} {r : α} (h : fl1 l K = some r) : ∃ x, K x = some r ∧ ∀ ρ, (l.map (SV.conc ρ)).toArray = #[.float .f64 x] := by
  unfold fl1 at h
  split at h
  · exact ⟨_, h, fun ρ => by simp [conc_v]⟩
  · cases h
theorem fl2_eq {α : Type} {l : List SV} {K : Nat → Nat → Option α} {r : α} (h : fl2 l K = some r) : ∃ x y, K x y = some r ∧ ∀ ρ, (l.map (SV.conc ρ)).toArray = #[.float .f64 x, .float .f64 y] := by
  unfold fl2 at h
  split at h
  · exact ⟨_, _, h, fun ρ => by simp [conc_v]⟩
  · cases h
theorem co1_eq {α : Type} {l : List SV} {K : Co → Option α} {r : α} (h : co1 l K = some r) : ∃ a, K a = some r ∧ ∀ ρ, (l.map (SV.conc ρ)).toArray = #[.complex .f64 a.re a.im] := by
  unfold co1 at h
  split at h
  · exact ⟨_, h, fun ρ => by simp [conc_v]⟩
  · cases h
theorem co2_eq {α : Type} {l : List SV} {K : Co → Co → Option α} {r : α} (h : co2 l K = some r) : ∃ a b, K a b = some r ∧ ∀ ρ, (l.map (SV.conc ρ)).toArray = #[.complex .f64 a.re a.im, .complex .f64 b.re b.im] := by
  unfold co2 at h
  split at h
  · exact ⟨_, _, h, fun ρ => by simp [conc_v]⟩
  · cases h
theorem baV_eq {α : Type} {x : SV} {K : Ba → Option α} {r : α} (h : baV x K = some r) : ∃ a, K a = some r ∧ ∀ ρ, x.conc ρ = a.v := by
  obtain ⟨h1, h⟩ := guardO_eq.1 h
  unfold baC at h
  split at h
  · rename_i a b q hc
    refine ⟨_, h, fun ρ => ?_⟩
    obtain ⟨cs, hcs⟩ := isAggV_of (ρ := ρ) h1
    have e : x.conc ρ = .agg (x.cells.map (SV.conc ρ)).toArray := by
      rw [← cells_conc, hcs]
      simp [Value.cells]
    rw [e, hc]
    simp [conc_v, Ba.v]
  · cases h
theorem ba1_eq {α : Type} {l : List SV} {K : Ba → Option α} {r : α} (h : ba1 l K = some r) : ∃ a, K a = some r ∧ ∀ ρ, (l.map (SV.conc ρ)).toArray = #[a.v] := by
  unfold ba1 at h
  split at h
  · obtain ⟨a, h1, h2⟩ := baV_eq h
    exact ⟨a, h1, fun ρ => by simp [h2 ρ]⟩
  · cases h
theorem ba2_eq {α : Type} {l : List SV} {K : Ba → Ba → Option α} {r : α} (h : ba2 l K = some r) : ∃ a b, K a b = some r ∧ ∀ ρ, (l.map (SV.conc ρ)).toArray = #[a.v, b.v] := by
  unfold ba2 at h
  split at h
  · obtain ⟨a, h1, h2⟩ := baV_eq h
    obtain ⟨b, h3, h4⟩ := baV_eq h1
    exact ⟨a, b, h3, fun ρ => by simp [h2 ρ, h4 ρ]⟩
  · cases h
theorem flR_eq {x : Nat} {r : SV} (h : flR x = some r) : r = .v (.float .f64 x) := by unfold flR at h; rw [force_eq] at h; cases h; rfl
theorem coR_eq {x : Co} {r : SV} (h : coR x = some r) : r = .v (.complex .f64 x.re x.im) := by unfold coR at h; simp only [force_eq] at h; cases h; rfl
theorem baR_eq {x : Ba} {r : SV} (h : baR x = some r) : (∀ n, Sc n r) ∧ ∀ ρ, r.conc ρ = x.v := by
  unfold baR at h
  simp only [force_eq] at h
  cases h
  refine ⟨fun n => Sc.agg fun y hy => ?_, fun ρ => by rw [conc_agg]; simp [conc_v, Ba.v]⟩
  simp only [List.mem_cons, List.not_mem_nil, or_false] at hy
  rcases hy with rfl | rfl <;> exact Sc.v _ _
theorem blR_eq {x : Bool} {r : SV} (h : blR x = some r) : r = .v (.bool x) := by cases x <;> cases h <;> rfl
theorem fbR_eq {x : Nat × Bool} {r : SV} (h : fbR x = some r) : (∀ n, Sc n r) ∧ ∀ ρ, r.conc ρ = .tuple #[.float .f64 x.1, .bool x.2] := by
  obtain ⟨q, b⟩ := x
  unfold fbR at h
  rw [force_eq] at h
  cases b <;>
  · cases h
    refine ⟨fun n => Sc.tup fun y hy => ?_, fun ρ => by rw [conc_tup]; simp [conc_v]⟩
    simp only [List.mem_cons, List.not_mem_nil, or_false] at hy
    rcases hy with rfl | rfl <;> exact Sc.v _ _
/-- An answer that a contract gives. -/
theorem tells {f : Nat} {fn : Func} {c : Code} {args : List SV} {v : SV} {u : Value} (hf : Tryz.prog.funcs[f]? = some fn) (hb : fn.body = some c) (hn : (fn.name == "runtime.NumGoroutine") = false) {av : Array Value} (ha : ∀ ρ, (args.map (SV.conc ρ)).toArray = av)
    (hv : ∀ ρ, v.conc ρ = u) (hs : ∀ n, Sc n v) (h : ∀ w, Calls Tryz.prog f av w fun e w' => e = .returned u ∧ Kept w w') :
    (∀ n, Sc n v) ∧ ∀ ρ w, SemVal Tryz.prog ((callFunc f (args.map (SV.conc ρ)).toArray).run Tryz.prog w) fun u w' => u = v.conc ρ ∧ Below w.heap.size w w' := by
  refine ⟨hs, fun ρ w => ?_⟩
  rw [ha, call_run hf hb hn]
  exact (h w).mono fun e w' ⟨h1, h2⟩ => ⟨u, h1, (hv ρ).symm, h2⟩
theorem still {f : Nat} {av : Array Value} {u : Value} {w : World} (h : Calls Tryz.prog f av w fun e w' => e = .returned u ∧ w = w') : Calls Tryz.prog f av w fun e w' => e = .returned u ∧ Kept w w' := h.mono fun e w' ⟨h1, h2⟩ => by subst h2; exact ⟨h1, Below.refl _ _⟩

/-! ### The functions -/
noncomputable def o0 (l : List SV) : Option SV := fl1 l fun x => guardO (finB x) (blR true)
theorem o0_ok {l : List SV} {v : SV} (h : o0 l = some v) : (∀ n, Sc n v) ∧ ∀ ρ w, SemVal Tryz.prog ((callFunc 164 (l.map (SV.conc ρ)).toArray).run Tryz.prog w) fun u w' => u = v.conc ρ ∧ Below w.heap.size w w' := by
  obtain ⟨x, h, ha⟩ := fl1_eq h
  obtain ⟨h1, h⟩ := guardO_eq.1 h
  obtain rfl := blR_eq h
  exact tells Tryz.func164 rfl (by kernel_rfl) ha (fun ρ => conc_v _ _) (fun n => Sc.v _ _) fun w => still (finite_any x h1 w)
noncomputable def o1 (l : List SV) : Option SV := fl1 l fun x => guardO (finB x) (flR (upN x))
theorem o1_ok {l : List SV} {v : SV} (h : o1 l = some v) : (∀ n, Sc n v) ∧ ∀ ρ w, SemVal Tryz.prog ((callFunc 140 (l.map (SV.conc ρ)).toArray).run Tryz.prog w) fun u w' => u = v.conc ρ ∧ Below w.heap.size w w' := by
  obtain ⟨x, h, ha⟩ := fl1_eq h
  obtain ⟨h1, h⟩ := guardO_eq.1 h
  obtain rfl := flR_eq h
  exact tells Tryz.func140 rfl (by kernel_rfl) ha (fun ρ => conc_v _ _) (fun n => Sc.v _ _) fun w => still (up_any x h1 w)
noncomputable def o2 (l : List SV) : Option SV := fl1 l fun x => guardO (decide (x < 18446744073709551616)) (flR (absN x))
theorem o2_ok {l : List SV} {v : SV} (h : o2 l = some v) : (∀ n, Sc n v) ∧ ∀ ρ w, SemVal Tryz.prog ((callFunc 210 (l.map (SV.conc ρ)).toArray).run Tryz.prog w) fun u w' => u = v.conc ρ ∧ Below w.heap.size w w' := by
  obtain ⟨x, h, ha⟩ := fl1_eq h
  obtain ⟨h1, h⟩ := guardO_eq.1 h
  obtain rfl := flR_eq h
  exact tells Tryz.func210 rfl (by kernel_rfl) ha (fun ρ => conc_v _ _) (fun n => Sc.v _ _) fun w => still (abs_any x (of_decide_eq_true h1) w)
noncomputable def o3 (l : List SV) : Option SV := fl2 l fun x y => bindO (plusO x y) flR
theorem o3_ok {l : List SV} {v : SV} (h : o3 l = some v) : (∀ n, Sc n v) ∧ ∀ ρ w, SemVal Tryz.prog ((callFunc 222 (l.map (SV.conc ρ)).toArray).run Tryz.prog w) fun u w' => u = v.conc ρ ∧ Below w.heap.size w w' := by
  obtain ⟨x, y, h, ha⟩ := fl2_eq h
  obtain ⟨r, h1, h⟩ := bindO_eq.1 h
  obtain rfl := flR_eq h
  exact tells Tryz.func222 rfl (by kernel_rfl) ha (fun ρ => conc_v _ _) (fun n => Sc.v _ _) fun w => still (plus_any x y r h1 w)
noncomputable def o4 (l : List SV) : Option SV := fl2 l fun x y => bindO (timesO x y) flR
theorem o4_ok {l : List SV} {v : SV} (h : o4 l = some v) : (∀ n, Sc n v) ∧ ∀ ρ w, SemVal Tryz.prog ((callFunc 223 (l.map (SV.conc ρ)).toArray).run Tryz.prog w) fun u w' => u = v.conc ρ ∧ Below w.heap.size w w' := by
  obtain ⟨x, y, h, ha⟩ := fl2_eq h
  obtain ⟨r, h1, h⟩ := bindO_eq.1 h
  obtain rfl := flR_eq h
  exact tells Tryz.func223 rfl (by kernel_rfl) ha (fun ρ => conc_v _ _) (fun n => Sc.v _ _) fun w => still (times_any x y r h1 w)
noncomputable def o5 (l : List SV) : Option SV := fl2 l fun x y => bindO (lostO x y) flR
theorem o5_ok {l : List SV} {v : SV} (h : o5 l = some v) : (∀ n, Sc n v) ∧ ∀ ρ w, SemVal Tryz.prog ((callFunc 264 (l.map (SV.conc ρ)).toArray).run Tryz.prog w) fun u w' => u = v.conc ρ ∧ Below w.heap.size w w' := by
  obtain ⟨x, y, h, ha⟩ := fl2_eq h
  obtain ⟨r, h1, h⟩ := bindO_eq.1 h
  obtain rfl := flR_eq h
  exact tells Tryz.func264 rfl (by kernel_rfl) ha (fun ρ => conc_v _ _) (fun n => Sc.v _ _) fun w => still (lost_any x y r h1 w)
noncomputable def o6 (l : List SV) : Option SV := fl1 l fun x => guardO (finB x) (blR false)
theorem o6_ok {l : List SV} {v : SV} (h : o6 l = some v) : (∀ n, Sc n v) ∧ ∀ ρ w, SemVal Tryz.prog ((callFunc 158 (l.map (SV.conc ρ)).toArray).run Tryz.prog w) fun u w' => u = v.conc ρ ∧ Below w.heap.size w w' := by
  obtain ⟨x, h, ha⟩ := fl1_eq h
  obtain ⟨h1, h⟩ := guardO_eq.1 h
  obtain rfl := blR_eq h
  exact tells Tryz.func158 rfl (by kernel_rfl) ha (fun ρ => conc_v _ _) (fun n => Sc.v _ _) fun w => still (infinite_any x h1 w)
noncomputable def o7 (l : List SV) : Option SV := fl1 l fun x => guardO (finB x) (blR false)
theorem o7_ok {l : List SV} {v : SV} (h : o7 l = some v) : (∀ n, Sc n v) ∧ ∀ ρ w, SemVal Tryz.prog ((callFunc 159 (l.map (SV.conc ρ)).toArray).run Tryz.prog w) fun u w' => u = v.conc ρ ∧ Below w.heap.size w w' := by
  obtain ⟨x, h, ha⟩ := fl1_eq h
  obtain ⟨h1, h⟩ := guardO_eq.1 h
  obtain rfl := blR_eq h
  exact tells Tryz.func159 rfl (by kernel_rfl) ha (fun ρ => conc_v _ _) (fun n => Sc.v _ _) fun w => still (nan_any x h1 w)
noncomputable def o8 (l : List SV) : Option SV := co1 l fun x => guardO x.fin (some (.v (.int .u8 (.ofNat (nat_lit 0)))))
theorem o8_ok {l : List SV} {v : SV} (h : o8 l = some v) : (∀ n, Sc n v) ∧ ∀ ρ w, SemVal Tryz.prog ((callFunc 85 (l.map (SV.conc ρ)).toArray).run Tryz.prog w) fun u w' => u = v.conc ρ ∧ Below w.heap.size w w' := by
  obtain ⟨x, h, ha⟩ := co1_eq h
  obtain ⟨h1, h⟩ := guardO_eq.1 h
  cases h
  exact tells Tryz.func85 rfl (by kernel_rfl) ha (fun ρ => conc_v _ _) (fun n => Sc.v _ _) fun w => still (kind_any x h1 w)
noncomputable def o9 (l : List SV) : Option SV := co2 l fun x y => bindO (caddO x y) coR
theorem o9_ok {l : List SV} {v : SV} (h : o9 l = some v) : (∀ n, Sc n v) ∧ ∀ ρ w, SemVal Tryz.prog ((callFunc 297 (l.map (SV.conc ρ)).toArray).run Tryz.prog w) fun u w' => u = v.conc ρ ∧ Below w.heap.size w w' := by
  obtain ⟨x, y, h, ha⟩ := co2_eq h
  obtain ⟨r, h1, h⟩ := bindO_eq.1 h
  obtain rfl := coR_eq h
  exact tells Tryz.func297 rfl (by kernel_rfl) ha (fun ρ => conc_v _ _) (fun n => Sc.v _ _) fun w => still (cadd_any x y r h1 w)
noncomputable def o10 (l : List SV) : Option SV := co2 l fun x y => bindO (csubO x y) coR
theorem o10_ok {l : List SV} {v : SV} (h : o10 l = some v) : (∀ n, Sc n v) ∧ ∀ ρ w, SemVal Tryz.prog ((callFunc 224 (l.map (SV.conc ρ)).toArray).run Tryz.prog w) fun u w' => u = v.conc ρ ∧ Below w.heap.size w w' := by
  obtain ⟨x, y, h, ha⟩ := co2_eq h
  obtain ⟨r, h1, h⟩ := bindO_eq.1 h
  obtain rfl := coR_eq h
  exact tells Tryz.func224 rfl (by kernel_rfl) ha (fun ρ => conc_v _ _) (fun n => Sc.v _ _) fun w => still (csub_any x y r h1 w)
noncomputable def o11 (l : List SV) : Option SV := co2 l fun x y => bindO (cmulO x y) coR
theorem o11_ok {l : List SV} {v : SV} (h : o11 l = some v) : (∀ n, Sc n v) ∧ ∀ ρ w, SemVal Tryz.prog ((callFunc 276 (l.map (SV.conc ρ)).toArray).run Tryz.prog w) fun u w' => u = v.conc ρ ∧ Below w.heap.size w w' := by
  obtain ⟨x, y, h, ha⟩ := co2_eq h
  obtain ⟨r, h1, h⟩ := bindO_eq.1 h
  obtain rfl := coR_eq h
  exact tells Tryz.func276 rfl (by kernel_rfl) ha (fun ρ => conc_v _ _) (fun n => Sc.v _ _) fun w => still (cmul_any x y r h1 w)
noncomputable def o12 (l : List SV) : Option SV := co1 l fun x => coR (cnegN x)
theorem o12_ok {l : List SV} {v : SV} (h : o12 l = some v) : (∀ n, Sc n v) ∧ ∀ ρ w, SemVal Tryz.prog ((callFunc 226 (l.map (SV.conc ρ)).toArray).run Tryz.prog w) fun u w' => u = v.conc ρ ∧ Below w.heap.size w w' := by
  obtain ⟨x, h, ha⟩ := co1_eq h
  obtain rfl := coR_eq h
  exact tells Tryz.func226 rfl (by kernel_rfl) ha (fun ρ => conc_v _ _) (fun n => Sc.v _ _) fun w => still (cneg_any x w)
noncomputable def o13 (l : List SV) : Option SV := co1 l fun x => bindO (hiO x) flR
theorem o13_ok {l : List SV} {v : SV} (h : o13 l = some v) : (∀ n, Sc n v) ∧ ∀ ρ w, SemVal Tryz.prog ((callFunc 141 (l.map (SV.conc ρ)).toArray).run Tryz.prog w) fun u w' => u = v.conc ρ ∧ Below w.heap.size w w' := by
  obtain ⟨x, h, ha⟩ := co1_eq h
  obtain ⟨r, h1, h⟩ := bindO_eq.1 h
  obtain rfl := flR_eq h
  exact tells Tryz.func141 rfl (by kernel_rfl) ha (fun ρ => conc_v _ _) (fun n => Sc.v _ _) fun w => still (chi_any x r h1 w)
noncomputable def o14 (l : List SV) : Option SV := co2 l fun x y => bindO (lostBothO x y) flR
theorem o14_ok {l : List SV} {v : SV} (h : o14 l = some v) : (∀ n, Sc n v) ∧ ∀ ρ w, SemVal Tryz.prog ((callFunc 225 (l.map (SV.conc ρ)).toArray).run Tryz.prog w) fun u w' => u = v.conc ρ ∧ Below w.heap.size w w' := by
  obtain ⟨x, y, h, ha⟩ := co2_eq h
  obtain ⟨r, h1, h⟩ := bindO_eq.1 h
  obtain rfl := flR_eq h
  exact tells Tryz.func225 rfl (by kernel_rfl) ha (fun ρ => conc_v _ _) (fun n => Sc.v _ _) fun w => still (lostBoth_any x y r h1 w)
noncomputable def o15 (l : List SV) : Option SV := co2 l fun x y => bindO (spoiltO x y) flR
theorem o15_ok {l : List SV} {v : SV} (h : o15 l = some v) : (∀ n, Sc n v) ∧ ∀ ρ w, SemVal Tryz.prog ((callFunc 277 (l.map (SV.conc ρ)).toArray).run Tryz.prog w) fun u w' => u = v.conc ρ ∧ Below w.heap.size w w' := by
  obtain ⟨x, y, h, ha⟩ := co2_eq h
  obtain ⟨r, h1, h⟩ := bindO_eq.1 h
  obtain rfl := flR_eq h
  exact tells Tryz.func277 rfl (by kernel_rfl) ha (fun ρ => conc_v _ _) (fun n => Sc.v _ _) fun w => still (spoilt_any x y r h1 w)
noncomputable def o16 (l : List SV) : Option SV := co1 l fun x => guardO x.fin (blR true)
theorem o16_ok {l : List SV} {v : SV} (h : o16 l = some v) : (∀ n, Sc n v) ∧ ∀ ρ w, SemVal Tryz.prog ((callFunc 163 (l.map (SV.conc ρ)).toArray).run Tryz.prog w) fun u w' => u = v.conc ρ ∧ Below w.heap.size w w' := by
  obtain ⟨x, h, ha⟩ := co1_eq h
  obtain ⟨h1, h⟩ := guardO_eq.1 h
  obtain rfl := blR_eq h
  exact tells Tryz.func163 rfl (by kernel_rfl) ha (fun ρ => conc_v _ _) (fun n => Sc.v _ _) fun w => still (bfinite_any x h1 w)
noncomputable def o17 (l : List SV) : Option SV := co1 l fun x => bindO (pointO x) baR
theorem o17_ok {l : List SV} {v : SV} (h : o17 l = some v) : (∀ n, Sc n v) ∧ ∀ ρ w, SemVal Tryz.prog ((callFunc 75 (l.map (SV.conc ρ)).toArray).run Tryz.prog w) fun u w' => u = v.conc ρ ∧ Below w.heap.size w w' := by
  obtain ⟨x, h, ha⟩ := co1_eq h
  obtain ⟨r, h1, h⟩ := bindO_eq.1 h
  obtain ⟨g1, g2⟩ := baR_eq h
  exact tells Tryz.func75 rfl (by kernel_rfl) ha g2 g1 fun w => point_any x r h1 w
noncomputable def o18 (l : List SV) : Option SV := fl1 l fun x => guardO (decide (x < SG)) (blR false)
theorem o18_ok {l : List SV} {v : SV} (h : o18 l = some v) : (∀ n, Sc n v) ∧ ∀ ρ w, SemVal Tryz.prog ((callFunc 165 (l.map (SV.conc ρ)).toArray).run Tryz.prog w) fun u w' => u = v.conc ρ ∧ Below w.heap.size w w' := by
  obtain ⟨x, h, ha⟩ := fl1_eq h
  obtain ⟨h1, h⟩ := guardO_eq.1 h
  obtain rfl := blR_eq h
  exact tells Tryz.func165 rfl (by kernel_rfl) ha (fun ρ => conc_v _ _) (fun n => Sc.v _ _) fun w => still (signbit_any x (of_decide_eq_true h1) w)
noncomputable def o19 (l : List SV) : Option SV := ba1 l fun x => guardO x.ok (blR true)
theorem o19_ok {l : List SV} {v : SV} (h : o19 l = some v) : (∀ n, Sc n v) ∧ ∀ ρ w, SemVal Tryz.prog ((callFunc 88 (l.map (SV.conc ρ)).toArray).run Tryz.prog w) fun u w' => u = v.conc ρ ∧ Below w.heap.size w w' := by
  obtain ⟨x, h, ha⟩ := ba1_eq h
  obtain ⟨h1, h⟩ := guardO_eq.1 h
  obtain rfl := blR_eq h
  exact tells Tryz.func88 rfl (by kernel_rfl) ha (fun ρ => conc_v _ _) (fun n => Sc.v _ _) fun w => may_any x h1 w
noncomputable def o20 (l : List SV) : Option SV := ba1 l fun x => guardO x.ok (blR false)
theorem o20_ok {l : List SV} {v : SV} (h : o20 l = some v) : (∀ n, Sc n v) ∧ ∀ ρ w, SemVal Tryz.prog ((callFunc 92 (l.map (SV.conc ρ)).toArray).run Tryz.prog w) fun u w' => u = v.conc ρ ∧ Below w.heap.size w w' := by
  obtain ⟨x, h, ha⟩ := ba1_eq h
  obtain ⟨h1, h⟩ := guardO_eq.1 h
  obtain rfl := blR_eq h
  exact tells Tryz.func92 rfl (by kernel_rfl) ha (fun ρ => conc_v _ _) (fun n => Sc.v _ _) fun w => isWhole_any x h1 w
noncomputable def o21 (l : List SV) : Option SV := ba2 l fun x y => bindO (baddO x y) baR
theorem o21_ok {l : List SV} {v : SV} (h : o21 l = some v) : (∀ n, Sc n v) ∧ ∀ ρ w, SemVal Tryz.prog ((callFunc 295 (l.map (SV.conc ρ)).toArray).run Tryz.prog w) fun u w' => u = v.conc ρ ∧ Below w.heap.size w w' := by
  obtain ⟨x, y, h, ha⟩ := ba2_eq h
  obtain ⟨r, h1, h⟩ := bindO_eq.1 h
  obtain ⟨g1, g2⟩ := baR_eq h
  exact tells Tryz.func295 rfl (by kernel_rfl) ha g2 g1 fun w => badd_any x y r h1 w
noncomputable def o22 (l : List SV) : Option SV := ba2 l fun x y => bindO (bsubO x y) baR
theorem o22_ok {l : List SV} {v : SV} (h : o22 l = some v) : (∀ n, Sc n v) ∧ ∀ ρ w, SemVal Tryz.prog ((callFunc 169 (l.map (SV.conc ρ)).toArray).run Tryz.prog w) fun u w' => u = v.conc ρ ∧ Below w.heap.size w w' := by
  obtain ⟨x, y, h, ha⟩ := ba2_eq h
  obtain ⟨r, h1, h⟩ := bindO_eq.1 h
  obtain ⟨g1, g2⟩ := baR_eq h
  exact tells Tryz.func169 rfl (by kernel_rfl) ha g2 g1 fun w => bsub_any x y r h1 w
noncomputable def o23 (l : List SV) : Option SV := ba2 l fun x y => bindO (bmulO x y) baR
theorem o23_ok {l : List SV} {v : SV} (h : o23 l = some v) : (∀ n, Sc n v) ∧ ∀ ρ w, SemVal Tryz.prog ((callFunc 248 (l.map (SV.conc ρ)).toArray).run Tryz.prog w) fun u w' => u = v.conc ρ ∧ Below w.heap.size w w' := by
  obtain ⟨x, y, h, ha⟩ := ba2_eq h
  obtain ⟨r, h1, h⟩ := bindO_eq.1 h
  obtain ⟨g1, g2⟩ := baR_eq h
  exact tells Tryz.func248 rfl (by kernel_rfl) ha g2 g1 fun w => bmul_any x y r h1 w
noncomputable def o24 (l : List SV) : Option SV := ba1 l fun x => bindO (bhiO x) flR
theorem o24_ok {l : List SV} {v : SV} (h : o24 l = some v) : (∀ n, Sc n v) ∧ ∀ ρ w, SemVal Tryz.prog ((callFunc 221 (l.map (SV.conc ρ)).toArray).run Tryz.prog w) fun u w' => u = v.conc ρ ∧ Below w.heap.size w w' := by
  obtain ⟨x, h, ha⟩ := ba1_eq h
  obtain ⟨r, h1, h⟩ := bindO_eq.1 h
  obtain rfl := flR_eq h
  exact tells Tryz.func221 rfl (by kernel_rfl) ha (fun ρ => conc_v _ _) (fun n => Sc.v _ _) fun w => bhi_any x r h1 w
noncomputable def oC (l : List SV) : Option SV := match l with
  | [x, y, .v (.float .f64 r)] => baV x fun a => baV y fun b => bindO (contractsO a b r) fbR
  | _ => none
theorem oC_ok {l : List SV} {v : SV} (h : oC l = some v) : (∀ n, Sc n v) ∧ ∀ ρ w, SemVal Tryz.prog ((callFunc 168 (l.map (SV.conc ρ)).toArray).run Tryz.prog w) fun u w' => u = v.conc ρ ∧ Below w.heap.size w w' := by
  unfold oC at h
  split at h
  · rename_i x y r
    obtain ⟨a, h, ha⟩ := baV_eq h
    obtain ⟨b, h, hb⟩ := baV_eq h
    obtain ⟨⟨q, ok⟩, h1, h⟩ := bindO_eq.1 h
    obtain ⟨g1, g2⟩ := fbR_eq h
    exact tells (av := #[a.v, b.v, .float .f64 r]) Tryz.func168 rfl (by kernel_rfl) (fun ρ => by simp [ha ρ, hb ρ, conc_v]) g2 g1 fun w => contracts_any a b r q ok h1 w
  · cases h
noncomputable def oI (l : List SV) : Option SV := match l with
  | [.v (.float .f64 x), .v (.int .i64 (.ofNat 1))] => blR (posInf x)
  | _ => none
theorem oI_ok {l : List SV} {v : SV} (h : oI l = some v) : (∀ n, Sc n v) ∧ ∀ ρ w, SemVal Tryz.prog ((callFunc 143 (l.map (SV.conc ρ)).toArray).run Tryz.prog w) fun u w' => u = v.conc ρ ∧ Below w.heap.size w w' := by
  unfold oI at h
  split at h
  · rename_i x
    obtain rfl := blR_eq h
    exact tells (av := #[.float .f64 x, .int .i64 1]) Tryz.func143 rfl (by kernel_rfl) (fun ρ => by simp [conc_v]) (fun ρ => conc_v _ _) (fun n => Sc.v _ _) fun w => still (isinf_any x w)
  · cases h
/-- What is told of a call: nothing, or a way to the answer (laid bare once for each function). -/
inductive Way where
  | none
  | way (f : List SV → Option SV)
noncomputable def Way.on (w : Way) (l : List SV) : Option SV := Way.rec Option.none (fun f => f l) w
noncomputable def wayOf (f : Nat) : Way := ifB (Nat.beq f 164) (.way o0) (ifB (Nat.beq f 140) (.way o1) (ifB (Nat.beq f 210) (.way o2) (ifB (Nat.beq f 222) (.way o3) (ifB (Nat.beq f 223) (.way o4) (ifB (Nat.beq f 264) (.way o5) (ifB (Nat.beq f 158) (.way o6) (ifB (Nat.beq f 159) (.way o7) (ifB (Nat.beq f 85) (.way o8) (ifB (Nat.beq f 297) (.way o9) (ifB (Nat.beq f 224) (.way o10) (ifB (Nat.beq f 276) (.way o11) (ifB (Nat.beq f 226) (.way o12) (ifB (Nat.beq f 141) (.way o13) (ifB (Nat.beq f 225) (.way o14) (ifB (Nat.beq f 277) (.way o15) (ifB (Nat.beq f 163) (.way o16) (ifB (Nat.beq f 75) (.way o17) (ifB (Nat.beq f 165) (.way o18) (ifB (Nat.beq f 88) (.way o19) (ifB (Nat.beq f 92) (.way o20) (ifB (Nat.beq f 295) (.way o21) (ifB (Nat.beq f 169) (.way o22) (ifB (Nat.beq f 248) (.way o23) (ifB (Nat.beq f 221) (.way o24) (ifB (Nat.beq f 168) (.way oC) (ifB (Nat.beq f 143) (.way oI) (ifB (Nat.beq f 138) (.way (ext1 Extern.MathFloatBits.float64bits)) (ifB (Nat.beq f 172) (.way (ext1 Extern.MathFloatBits.float64frombits)) (ifB (Nat.beq f 279) (.way (ext1 Extern.MathSqrt.sqrt)) (.none))))))))))))))))))))))))))))))
noncomputable def oraF (f : Nat) (l : List SV) (_ : List Hp) : Option SV := (wayOf f).on l
theorem oraF_tells {f : Nat} {l : List SV} {heap : List Hp} {v : SV} (h : oraF f l heap = some v) : (∀ n, Sc n v) ∧ ∀ ρ w, SemVal Tryz.prog ((callFunc f (l.map (SV.conc ρ)).toArray).run Tryz.prog w) fun u w' => u = v.conc ρ ∧ Below w.heap.size w w' := by
  unfold oraF wayOf at h
  rcases beq_dec f 164 with ⟨e, he⟩ | ⟨e, -⟩
  · rw [e, ifB_true] at h
    subst he
    exact o0_ok h
  rw [e, ifB_false] at h
  rcases beq_dec f 140 with ⟨e, he⟩ | ⟨e, -⟩
  · rw [e, ifB_true] at h
    subst he
    exact o1_ok h
  rw [e, ifB_false] at h
  rcases beq_dec f 210 with ⟨e, he⟩ | ⟨e, -⟩
  · rw [e, ifB_true] at h
    subst he
    exact o2_ok h
  rw [e, ifB_false] at h
  rcases beq_dec f 222 with ⟨e, he⟩ | ⟨e, -⟩
  · rw [e, ifB_true] at h
    subst he
    exact o3_ok h
  rw [e, ifB_false] at h
  rcases beq_dec f 223 with ⟨e, he⟩ | ⟨e, -⟩
  · rw [e, ifB_true] at h
    subst he
    exact o4_ok h
  rw [e, ifB_false] at h
  rcases beq_dec f 264 with ⟨e, he⟩ | ⟨e, -⟩
  · rw [e, ifB_true] at h
    subst he
    exact o5_ok h
  rw [e, ifB_false] at h
  rcases beq_dec f 158 with ⟨e, he⟩ | ⟨e, -⟩
  · rw [e, ifB_true] at h
    subst he
    exact o6_ok h
  rw [e, ifB_false] at h
  rcases beq_dec f 159 with ⟨e, he⟩ | ⟨e, -⟩
  · rw [e, ifB_true] at h
    subst he
    exact o7_ok h
  rw [e, ifB_false] at h
  rcases beq_dec f 85 with ⟨e, he⟩ | ⟨e, -⟩
  · rw [e, ifB_true] at h
    subst he
    exact o8_ok h
  rw [e, ifB_false] at h
  rcases beq_dec f 297 with ⟨e, he⟩ | ⟨e, -⟩
  · rw [e, ifB_true] at h
    subst he
    exact o9_ok h
  rw [e, ifB_false] at h
  rcases beq_dec f 224 with ⟨e, he⟩ | ⟨e, -⟩
  · rw [e, ifB_true] at h
    subst he
    exact o10_ok h
  rw [e, ifB_false] at h
  rcases beq_dec f 276 with ⟨e, he⟩ | ⟨e, -⟩
  · rw [e, ifB_true] at h
    subst he
    exact o11_ok h
  rw [e, ifB_false] at h
  rcases beq_dec f 226 with ⟨e, he⟩ | ⟨e, -⟩
  · rw [e, ifB_true] at h
    subst he
    exact o12_ok h
  rw [e, ifB_false] at h
  rcases beq_dec f 141 with ⟨e, he⟩ | ⟨e, -⟩
  · rw [e, ifB_true] at h
    subst he
    exact o13_ok h
  rw [e, ifB_false] at h
  rcases beq_dec f 225 with ⟨e, he⟩ | ⟨e, -⟩
  · rw [e, ifB_true] at h
    subst he
    exact o14_ok h
  rw [e, ifB_false] at h
  rcases beq_dec f 277 with ⟨e, he⟩ | ⟨e, -⟩
  · rw [e, ifB_true] at h
    subst he
    exact o15_ok h
  rw [e, ifB_false] at h
  rcases beq_dec f 163 with ⟨e, he⟩ | ⟨e, -⟩
  · rw [e, ifB_true] at h
    subst he
    exact o16_ok h
  rw [e, ifB_false] at h
  rcases beq_dec f 75 with ⟨e, he⟩ | ⟨e, -⟩
  · rw [e, ifB_true] at h
    subst he
    exact o17_ok h
  rw [e, ifB_false] at h
  rcases beq_dec f 165 with ⟨e, he⟩ | ⟨e, -⟩
  · rw [e, ifB_true] at h
    subst he
    exact o18_ok h
  rw [e, ifB_false] at h
  rcases beq_dec f 88 with ⟨e, he⟩ | ⟨e, -⟩
  · rw [e, ifB_true] at h
    subst he
    exact o19_ok h
  rw [e, ifB_false] at h
  rcases beq_dec f 92 with ⟨e, he⟩ | ⟨e, -⟩
  · rw [e, ifB_true] at h
    subst he
    exact o20_ok h
  rw [e, ifB_false] at h
  rcases beq_dec f 295 with ⟨e, he⟩ | ⟨e, -⟩
  · rw [e, ifB_true] at h
    subst he
    exact o21_ok h
  rw [e, ifB_false] at h
  rcases beq_dec f 169 with ⟨e, he⟩ | ⟨e, -⟩
  · rw [e, ifB_true] at h
    subst he
    exact o22_ok h
  rw [e, ifB_false] at h
  rcases beq_dec f 248 with ⟨e, he⟩ | ⟨e, -⟩
  · rw [e, ifB_true] at h
    subst he
    exact o23_ok h
  rw [e, ifB_false] at h
  rcases beq_dec f 221 with ⟨e, he⟩ | ⟨e, -⟩
  · rw [e, ifB_true] at h
    subst he
    exact o24_ok h
  rw [e, ifB_false] at h
  rcases beq_dec f 168 with ⟨e, he⟩ | ⟨e, -⟩
  · rw [e, ifB_true] at h
    subst he
    exact oC_ok h
  rw [e, ifB_false] at h
  rcases beq_dec f 143 with ⟨e, he⟩ | ⟨e, -⟩
  · rw [e, ifB_true] at h
    subst he
    exact oI_ok h
  rw [e, ifB_false] at h
  refine ora0_ok (heap := heap) ?_
  unfold ora
  rcases beq_dec f 138 with ⟨e, he⟩ | ⟨e, -⟩
  · rw [e, ifB_true] at h ⊢
    exact h
  rw [e, ifB_false] at h ⊢
  rcases beq_dec f 172 with ⟨e, he⟩ | ⟨e, -⟩
  · rw [e, ifB_true] at h ⊢
    exact h
  rw [e, ifB_false] at h ⊢
  rcases beq_dec f 279 with ⟨e, he⟩ | ⟨e, -⟩
  · rw [e, ifB_true] at h ⊢
    exact h
  rw [e, ifB_false] at h ⊢
  cases h
theorem oraF_ok : OraOK Tryz.prog oraF := fun f l heap v h => ⟨(oraF_tells h).1, fun ρ _ w _ _ => (oraF_tells h).2 ρ w⟩
end Go.Proofs.YtneakieigiafpaaGreatDoor
