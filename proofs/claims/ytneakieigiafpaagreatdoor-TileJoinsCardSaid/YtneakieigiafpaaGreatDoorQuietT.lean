/- A region that draws its order, whose operations are quiet in a class of worlds (the callees may lay new memory), but for the last one, which waits for all of them (a store of the result): one walk in the order of the text serves every order. -/
import Derived.Test.YtneakieigiafpaaGreatDoorMemX
import Derived.Deep.Quiet
namespace Go.Proofs.YtneakieigiafpaaGreatDoor
section
variable {P : Program} {ops : Array Oper} {md : Region.Mode} {C : World → Prop} {last : Nat}

/-- Whatever order is picked from here on: so many quiet ones, then the last. -/
def wpAnyT (P : Program) (md : Region.Mode) (ops : Array Oper) (C : World → Prop) (last : Nat) (E : Act → Prop) : Nat → Array Bool → Act → Prop
  | 0, listed, a => Region.ready md ops listed = [last] ∧ Region.ready md ops (listed.setIfInBounds last true) = [] ∧ E a
  | f + 1, listed, a => Region.ready md ops listed ≠ [] ∧ last ∉ Region.ready md ops listed ∧ ∀ i ∈ Region.ready md ops listed, qOp P ops C i (wpAnyT P md ops C last E f (listed.setIfInBounds i true)) a

theorem wpAny_of_T {E : Act → Prop} {Q : Exit → Act → World → Prop} (hE : ∀ a w, C w → E a → wpOp P ops Q last (fun a' w' => Q .normal a' w') a w) :
    ∀ (f : Nat) (listed : Array Bool) (a : Act) (w : World), C w → wpAnyT P md ops C last E f listed a → wpAny P md ops Q (f + 1) listed a w
  | 0, _, _, _, hw, h => by
    refine ⟨fun h0 => ?_, fun i hi => ?_⟩
    · rw [h.1] at h0; cases h0
    · rw [h.1] at hi
      obtain rfl : i = last := by simpa using hi
      exact wpOp_mono (fun a' w' hq => ⟨h.2.1, hq⟩) (hE _ _ hw h.2.2)
  | f + 1, _, _, _, hw, h => ⟨fun h0 => absurd h0 h.1, fun i hi => wpOp_of_qOp hw (fun a' w' hw' => wpAny_of_T hE f _ a' w' hw') (h.2.2 i hi)⟩

theorem wpAnyT_first {E : Act → Prop} {i : Nat} {oi : Oper} {v : Value} (hi : ops[i]? = some oi) (hsel : ∀ (j : Nat) (o : Oper) cs b, ops[j]? = some o → o.op ≠ .select cs b) (hlast : waitsFor md ops last i = true) :
    ∀ (fuel : Nat) (listed : Array Bool) (a : Act),
      (∀ j oj, ops[j]? = some oj → j ≠ i → listed.getD j true = false → (∀ e ∈ oj.after, Region.binds md e = true → e.on ≠ i) → oi.apart ops oj = true) →
      i ∈ Region.ready md ops listed → YieldsIn P ops C oi v a →
      wpAnyT P md ops C last E fuel (listed.setIfInBounds i true) (a.put oi.dst v) → wpAnyT P md ops C last E (fuel + 1) listed a := by
  intro fuel
  induction fuel with
  | zero =>
    intro listed a _ hr hy H
    have hnl := not_ready_of_waits hlast hr
    refine ⟨fun h => (by rw [h] at hr; cases hr), hnl, fun j hj => ?_⟩
    by_cases hji : j = i
    · subst hji; exact hy.qOp hi H
    · have := ready_mono hj hji
      rw [H.1] at this
      obtain rfl : j = last := by simpa using this
      exact absurd hj hnl
  | succ fuel ih =>
    intro listed a hfree hr hy H
    refine ⟨fun h => (by rw [h] at hr; cases hr), not_ready_of_waits hlast hr, fun j hj => ?_⟩
    by_cases hji : j = i
    · subst hji; exact hy.qOp hi H
    · have h1 := H.2.2 j (ready_mono hj hji)
      obtain ⟨hjun, oj, hoj, hall⟩ := mem_ready.1 hj
      have hnot : ∀ e ∈ oj.after, Region.binds md e = true → e.on ≠ i := fun e he hb heq => by
        have h1 := hall e he hb
        have h0 := (mem_ready.1 hr).1
        rw [heq] at h1
        rcases Nat.lt_or_ge i listed.size with h' | h'
        · simp [h'] at h0 h1; rw [h0] at h1; cases h1
        · simp [Array.getElem?_eq_none h'] at h1
      have h2 := qOp_put hoj (hfree j oj hoj hji hjun hnot) (fun cs b => hsel i oi cs b hi) (fun cs b => hsel j oj cs b hoj) hy h1
      have hfree' : ∀ k ok, ops[k]? = some ok → k ≠ i → (listed.setIfInBounds j true).getD k true = false →
          (∀ e ∈ ok.after, Region.binds md e = true → e.on ≠ i) → oi.apart ops ok = true := fun k ok hk hki hun hno => by
        refine hfree k ok hk hki ?_ hno
        by_cases hjk : j = k
        · subst hjk; exact hjun
        · rw [getD_set_ne true hjk] at hun; exact hun
      refine qOp_mono (fun a' h3 => ih (listed.setIfInBounds j true) a' hfree' (ready_mono hr (Ne.symm hji)) h3.1 ?_) h2
      rw [Array.setIfInBounds_comm _ _ hji]
      exact h3.2

/-- The order of the text: the quiet ones, then the last. -/
def lexT (md : Region.Mode) (ops : Array Oper) (last : Nat) : Nat → Nat → Array Bool → Bool
  | 0, _, listed => Region.ready md ops listed == [last] && (Region.ready md ops (listed.setIfInBounds last true)).isEmpty
  | n + 1, k, listed => (Region.ready md ops listed).contains k && (Region.free md ops listed k && (waitsFor md ops last k && lexT md ops last n (k + 1) (listed.setIfInBounds k true)))

theorem wpAnyT_lex {E : Act → Prop} (hs : Region.noSelect ops = true) : ∀ (l : List Oper) (k : Nat) (listed : Array Bool) (a : Act), (∀ j, j < l.length → l[j]? = ops[k + j]?) →
    lexT md ops last l.length k listed = true → wpQuiet P ops C E l a → wpAnyT P md ops C last E l.length listed a
  | [], _, _, _, _, hB, h => by
    simp only [List.length_nil, lexT, Bool.and_eq_true, beq_iff_eq, List.isEmpty_iff] at hB
    exact ⟨hB.1, hB.2, h⟩
  | o :: l, k, listed, a, hl, hB, h => by
    have h0 : ops[k]? = some o := by simpa using (hl 0 (by simp)).symm
    simp only [List.length_cons, lexT, Bool.and_eq_true] at hB
    obtain ⟨hr, hf, hw, hB'⟩ := hB
    have hst : qOp P ops C k (wpQuiet P ops C E l) a := by unfold qOp; simp only [h0]; exact h
    obtain ⟨v, hy, hK⟩ := yieldsIn_of_qOp h0 hst
    exact wpAnyT_first h0 (Region.noSelect_spec hs) hw l.length listed a (Region.free_spec h0 hf) (by simpa using hr) hy
      (wpAnyT_lex hs l (k + 1) _ _ (fun j hj => by have := hl (j + 1) (by simp; omega); simpa [Nat.add_assoc, Nat.add_comm 1 j] using this) hB' hK)

theorem wp_region_T {id : Nat} {Q : Exit → Act → World → Prop} {a : Act} {w : World} {l : List Oper} (C : World → Prop) (n : Nat) (hm : P.follows .mixedOrders = true)
    (hB : (Region.noSelect l.toArray && (l.length == n + 1 && lexT .any l.toArray n n 0 (Array.replicate (n + 1) false))) = true) (hC : C w.drew)
    (h : wpQuiet P l.toArray C (fun a' => ∀ w', C w' → wpOp P l.toArray Q n (fun a'' w'' => Q .normal a'' w'') a' w') (l.take n) a) : (Code.region id l.toArray true).wp P Q a w := by
  simp only [Bool.and_eq_true, beq_iff_eq] at hB
  obtain ⟨hs, hn, hB⟩ := hB
  refine wp_region_any hm ?_
  have e : l.toArray.size = n + 1 := by simpa using hn
  have el : (l.take n).length = n := by rw [List.length_take, hn]; omega
  rw [e]
  refine wpAny_of_T (C := C) (last := n) (E := fun a' => ∀ w', C w' → wpOp P l.toArray Q n (fun a'' w'' => Q .normal a'' w'') a' w') (fun _ w' hw' h => h w' hw') n _ _ _ hC ?_
  have := wpAnyT_lex (C := C) (md := .any) (last := n) hs (l.take n) 0 (Array.replicate (n + 1) false) a (fun j hj => by rw [el] at hj; simp [List.getElem?_take, hj]) (by rw [el]; exact hB) h
  rwa [el] at this
theorem wpQuiet_take {E : Act → Prop} {a : Act} {o : Oper} {rest : List Oper} {v : Value} (d : Option Tmp) (hd : o.dst = d) (hw : Region.wanted o (yielded ops a.tmps) = true)
    (h : ∀ w, C w → (execOp a.eval o).run P w = .ok (.value v) w) (hk : wpQuiet P ops C E rest (a.put d v)) : wpQuiet P ops C E (o :: rest) a := by
  subst hd
  unfold wpQuiet
  rw [if_pos hw]
  exact ⟨v, fun w hC => by unfold Oper.quietAt; rw [h w hC]; exact ⟨rfl, rfl⟩, hk⟩
theorem wpQuiet_pass {E : Act → Prop} {a : Act} {o : Oper} {rest : List Oper} (d : Option Tmp) (hd : o.dst = d) (hw : Region.wanted o (yielded ops a.tmps) = false)
    (hk : wpQuiet P ops C E rest (a.put d undef)) : wpQuiet P ops C E (o :: rest) a := by
  subst hd
  unfold wpQuiet
  rw [if_neg (by rw [hw]; decide)]
  exact hk
theorem wpQuiet_call {E : Act → Prop} {a : Act} {o : Oper} {rest : List Oper} {v : Value} {f : FuncId} {args : Array Value} (d : Option Tmp) (hd : o.dst = d) (hw : Region.wanted o (yielded ops a.tmps) = true)
    (he : ∀ w, C w → (execOp a.eval o).run P w = .ok (.enter f args) w) (hc : ∀ w, C w → Calls P f args w (fun e w' => e = .returned v ∧ C w'))
    (hk : wpQuiet P ops C E rest (a.put d v)) : wpQuiet P ops C E (o :: rest) a := by
  subst hd
  unfold wpQuiet
  rw [if_pos hw]
  exact ⟨v, fun w hC => by unfold Oper.quietAt; rw [he w hC]; exact ⟨rfl, hc w hC⟩, hk⟩
theorem wpOp_last {Q : Exit → Act → World → Prop} {i : Nat} {o : Oper} {a : Act} {w : World} (ho : ops[i]? = some o)
    (h : ∀ K' : Act → World → Prop, Shut (∀ a w, Q .normal a w → K' a w) → if Region.wanted o (yielded ops a.tmps) = true then Oper.wp P o a w K' Q else K' (a.put o.dst undef) w) :
    wpOp P ops Q i (fun a' w' => Q .normal a' w') a w :=
  wpOp_step ho (fun K' hK => h K' (fun a w hW => hK a w hW))
end
end Go.Proofs.YtneakieigiafpaaGreatDoor
