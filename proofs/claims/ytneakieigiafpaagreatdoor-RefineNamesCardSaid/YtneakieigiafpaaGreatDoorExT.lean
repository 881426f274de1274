/- store.Read's deferred call does nothing where nothing went wrong; calls that the runner answers by 'true' with iterators and such deferred calls told. -/
import Derived.Test.YtneakieigiafpaaGreatDoorExR
import Derived.RecoverIn
import Derived.Deep.LoopGhost
namespace Go.Proofs.YtneakieigiafpaaGreatDoor
open Go.Ex Go.RowKit
set_option maxRecDepth 100000

theorem assert_nil (w : World) : (Instr.typeAssert .nilIface 20 201 true).run Tryz.prog w = .ok (.tuple #[.agg #[], .bool false]) w := by kernel_rfl
theorem neq_nil (w : World) : (do eqGuard .neq 20 (.tmp 13) (.const .nilIface) .nilIface .nilIface; binOp .neq 20 .nilIface .nilIface : Sem Value).run Tryz.prog w = .ok (.bool false) w := by kernel_rfl
set_option maxHeartbeats 1600000 in
theorem read1_quiet (p q : Addr) (w : World) : CallsDIn Fence.wide 4 Tryz.prog 107 #[.pointer (some p), .pointer (some q)] .returning w fun e u' w' => (∃ v, e = .returned v) ∧ u' = .returning ∧ Below w.heap.size w w' := by
  refine callsDIn_of_wpSIn Tryz.func107 rfl trivial fun c₀ cs hu => ?_
  simp only [Tryz.ntmps107, List.size_toArray, List.length_cons, List.length_nil, Nat.reduceAdd, Nat.reduceSub, Array.replicate_succ, Array.replicate_zero, List.push_toArray, List.append_toArray, List.nil_append, List.cons_append]
  apply wpSIn_seq
  apply wpSIn_region
  simp [wpOpsSIn, go_sem, recoverD, hu, Exit.thenS]
  refine wpSIn_of_wpIn rfl (wpIn_wide.2 ?_)
  have ha := assert_nil
  have hn := neq_nil
  go_wp2_with fail
  refine ⟨rfl, .returning, by rw [← hu], .tuple #[], by simp [results, Tryz.results107], ⟨_, rfl⟩, rfl, (Below.refl _ _).alloc (Nat.le_refl _) _⟩
noncomputable def readQ (f : Nat) (xs : List SV) : Bool := ifB (Nat.beq f 107) (match xs with | [.ptr _ _, .ptr _ _] => true | _ => false) false
theorem readQ_ok : QuietOK Tryz.prog readQ := by
  intro f xs h ρ w
  obtain ⟨h1, h2⟩ := ifB_and h
  obtain rfl := Nat.eq_of_beq_eq_true h1
  split at h2
  · rename_i b o b' o'
    refine ⟨call_run Tryz.func107 rfl (by kernel_rfl) _ w, ?_⟩
    have e : ([SV.ptr b o, SV.ptr b' o'].map (SV.conc ρ)).toArray = #[.pointer (some ⟨ρ.blk b, o, none⟩), .pointer (some ⟨ρ.blk b', o', none⟩)] := by simp [conc_ptr]
    rw [e]
    exact read1_quiet _ _ w
  · cases h2
/-- A call that the runner answers by 'true': calls that were run before taken off a table, iterators told. -/
theorem run_trueI {t : List En} (ht : ∀ e ∈ t, EnOK e) {I : Its} (hi : ItsOK Tryz.prog I) {n f : Nat} {args : List SV} {H : List Hp} {fn : Func} {c : Code} (h : saysTrue (exRunI Tryz.prog (oraM t) I n f args H) = true) (hf : Tryz.prog.funcs[f]? = some fn) (hb : fn.body = some c) (hn : (fn.name == "runtime.NumGoroutine") = false) {ρ : Va} {w : World} (hh : HpOK ρ 4096 H w) (ha : ∀ x ∈ args, Sc 4096 x) :
    Calls Tryz.prog f (args.map (SV.conc ρ)).toArray w fun e w' => e = .returned (.bool true) ∧ Below w.heap.size w w' := by
  have := runI_ok (oraM_ok ht) hi mixed (saysTrue_eq h) hh ha
  rw [call_run hf hb hn] at this
  refine Calls.mono this fun e w' ⟨u, h1, ρ', h2, h3⟩ => ?_
  rw [conc_v] at h2
  subst h2
  exact ⟨h1, h3⟩
end Go.Proofs.YtneakieigiafpaaGreatDoor
