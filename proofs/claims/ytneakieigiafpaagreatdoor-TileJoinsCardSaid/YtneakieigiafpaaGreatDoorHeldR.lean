/- A drawn region in a round of a range over a function: what is shown of it by the laws of text Held (plain walks) holds in the round too, where no operation is a defer. -/
import Derived.Test.YtneakieigiafpaaGreatDoorMemX
import Derived.Test.YtneakieigiafpaaGreatDoorQuietR
namespace Go.Proofs.YtneakieigiafpaaGreatDoor
section
variable {P : Program} {ops : Array Oper} {Q : Exit → Act → World → Prop} {md : Region.Mode} {S : World → Prop} {last l n : Nat}

theorem Oper.wpIn_of_wp {o : Oper} {a : Act} {w : World} {next : Act → World → Prop} (hd : ∀ c, o.op ≠ .defer c) (h : Oper.wp P o a w next Q) : o.wpIn (Fence.wide.inRound l) n P a w next Q := by
  unfold Oper.wp at h
  unfold Oper.wpIn
  refine ⟨fun _ _ => trivial, ?_⟩
  rw [Oper.semAt_eq _ _ _ hd]
  generalize (execOp a.eval o).run P w = r at *
  cases r with
  | ok x w' =>
    cases x <;> simp only [Oper.upon] at h <;> simp only [Oper.uponIn]
    case value => exact h
    case skip => exact h
    case defer => exact h
    case enter f args => exact ⟨fun h0 => by simp [Fence.inRound, Fence.wide] at h0, callsIn_wide.2 h⟩
    case row r args => exact ⟨fun h0 => by simp [Fence.inRound, Fence.wide] at h0, fun c cs _ => let ⟨v, w2, r9, s9⟩ := h c cs; ⟨v, w2, r9, stepsIn_wide.2 s9⟩⟩
  | halt x w' => cases x <;> simp only [Oper.upon] at h <;> simp only [Oper.uponIn]; exact h

/-- The normal way out, and no other. -/
def OnlyN (Q : Exit → Act → World → Prop) : Exit → Act → World → Prop
  | .normal, a, w => Q .normal a w
  | _, _, _ => False
theorem OnlyN.ok {a : Act} {w : World} (h : Q .normal a w) : OnlyN Q .normal a w := h
theorem OnlyN.imp : ∀ (e : Exit) (a : Act) (w : World), OnlyN Q e a w → Q e a w := fun e a w h => by
  cases e <;> first | exact h | exact (h : False).elim
theorem OnlyN.out : ¬ LetsOut (OnlyN Q) := fun ⟨_, _, h⟩ => h

theorem wpAnyIn_of_wpAny (hp : plainOps ops.toList = true) (hout : ¬ LetsOut Q) : ∀ (fuel : Nat) (listed : Array Bool) (a : Act) (w : World), wpAny P md ops Q fuel listed a w → wpAnyIn (Fence.wide.inRound l) n P md ops Q fuel listed a w
  | 0, _, _, _, h => h
  | fuel + 1, listed, a, w, h => ⟨h.1, fun i hi => by
    have h1 := h.2 i hi
    unfold wpOp at h1
    unfold wpOpIn
    split
    · rename_i ho; simp only [ho] at h1; exact wpAnyIn_of_wpAny hp hout fuel _ _ _ h1
    · rename_i o ho
      simp only [ho] at h1
      split
      · rename_i hw
        simp only [hw, if_true] at h1
        rcases h1 with h1 | h1
        · exact Oper.wpIn_of_wp (plainOps_spec hp ho) (Oper.wp_mono (fun a' w' h' => wpAnyIn_of_wpAny hp hout fuel _ a' w' h') h1)
        · exact absurd h1.2 hout
      · rename_i hw
        simp only [hw] at h1
        exact ⟨fun _ _ => trivial, wpAnyIn_of_wpAny hp hout fuel _ _ _ h1⟩⟩

theorem wpIn_region_L {id : Nat} {a : Act} {w : World} (S : World → Prop) (last : Nat) (hp : plainOps ops.toList = true) (hm : P.follows .mixedOrders = true) (hS : S w.drew)
    (h : S w.drew → wpAnyL P .any ops (OnlyN Q) S last ops.size (Array.replicate ops.size false) a w.drew) : (Code.region id ops true).wpIn (Fence.wide.inRound l) n P Q a w :=
  wpIn_mono (wpIn_region_any hm (wpAnyIn_of_wpAny hp OnlyN.out _ _ _ _ (wpAny_of_L _ _ _ _ (h hS)))) OnlyN.imp
end
end Go.Proofs.YtneakieigiafpaaGreatDoor
