/- Blocks of deferred calls that ranges over functions leave. -/
import Derived.Test.YtneakieigiafpaaGreatDoorRects
import Derived.Deep.LoopGhost
import Derived.Deep.QuietTactic
import Derived.BigQuiet
import Derived.Test.YtneakieigiafpaaGreatDoorQuietR
namespace Go.Proofs.YtneakieigiafpaaGreatDoor
open Go.RowKit Go.Shelf

/-- Blocks of deferred calls, each with none, each another, all at or beyond lo. -/
def Defs (lo : Nat) (W : World) : List Deferred → Prop
  | [] => True
  | d :: ds => ∃ D, d = { target := .collected D, args := #[] } ∧ lo ≤ D ∧ W.heap[D]? = some (.deferred (some [])) ∧ ({ target := .collected D, args := #[] } : Deferred) ∉ ds ∧ Defs lo W ds
theorem Defs.lt {lo : Nat} {W : World} : ∀ {ds : List Deferred} {D : Nat}, Defs lo W ds → ({ target := .collected D, args := #[] } : Deferred) ∈ ds → D < W.heap.size
  | _ :: _, D, ⟨D', he, _, hh, _, hd⟩, hm => by
    rcases List.mem_cons.1 hm with h | h
    · rw [he] at h; cases h; exact (Array.getElem?_eq_some_iff.1 hh).1
    · exact hd.lt h
theorem Defs.keeps {lo : Nat} {W W' : World} (hk : ∀ (k : Nat) (o : Obj), W.heap[k]? = some o → o.isCells = false → W'.heap[k]? = some o) : ∀ {ds : List Deferred}, Defs lo W ds → Defs lo W' ds
  | [], _ => trivial
  | _ :: _, ⟨D, he, hl, hh, hn, hd⟩ => ⟨D, he, hl, hk _ _ hh rfl, hn, hd.keeps hk⟩
theorem Defs.put {lo : Nat} {W : World} {D : Nat} {o : Obj} : ∀ {ds : List Deferred}, Defs lo W ds → ({ target := .collected D, args := #[] } : Deferred) ∉ ds → Defs lo (W.putObj D o) ds
  | [], _, _ => trivial
  | _ :: _, ⟨D', he, hl, hh, hn, hd⟩, hm => by
    subst he
    have hne : D' ≠ D := fun e => hm (by subst e; simp)
    exact ⟨D', rfl, hl, (World.putObj_heap_other hne).trans hh, hn, hd.put fun h => hm (List.mem_cons_of_mem _ h)⟩
/-- The blocks of deferred calls are shut, one behind the other. -/
theorem leaves_defs {F : Fence} {n : Nat} {P : Program} {fn : Func} {tmps : Array Value} {R : Ending → World → Prop} {lo : Nat} : ∀ (ds : List Deferred) (W : World), Defs lo W ds →
    (∀ W', Below lo W W' → (∀ b o, (∃ v, W.cell? ⟨b, o, none⟩ = some v) → W'.cell? ⟨b, o, none⟩ = W.cell? ⟨b, o, none⟩) → ∃ v, (results fn tmps).run P W' = .ok v W' ∧ R (.returned v) W') → lo ≤ W.heap.size →
    LeavesInM F n P fn tmps R ds .returning W
  | [], W, _, h, _ => h W (Below.refl _ _) (fun _ _ _ => rfl)
  | _ :: ds, W, ⟨D, he, hl, hh, hn, hd⟩, h, hlo => by
    subst he
    have hD : D < W.heap.size := (Array.getElem?_eq_some_iff.1 hh).1
    have hb : Below lo W (W.putObj D (.deferred none)) := (Below.refl lo W).grown (grownBy_putObj' W D _) hlo (fun k e => by cases e; exact hl)
    refine ⟨by simp, .inl ⟨D, _, rfl, run_takeDeferred hh, leaves_defs ds _ ?_ (fun W' hb' hc' => ?_) (by simpa using hlo)⟩⟩
    · exact hd.put hn
    · refine h W' (hb.trans hb') fun b o hv => ?_
      obtain ⟨v, hv⟩ := hv
      have h1 := cell_kept hv (grownBy_putObj' W D (.deferred none)) (fun r e => by cases e; exact ⟨_, hh, rfl⟩)
      rw [hc' b o ⟨v, h1⟩, h1, hv]
end Go.Proofs.YtneakieigiafpaaGreatDoor
