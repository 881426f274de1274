/- tile.Rects as an iterator that tells its rectangles in order. -/
import Derived.Test.YtneakieigiafpaaGreatDoorRectsK
import Derived.Test.YtneakieigiafpaaGreatDoorRangeO
namespace Go.Proofs.YtneakieigiafpaaGreatDoor
open Go.RowKit Go.Shelf

theorem rects_offersO (Kp : World → World → Prop) (n : Nat) (hn : 1 ≤ n) (Bs n₀ : Nat) (g : GrD) (hK1 : ∀ X Y, Kp X Y → GBox X Bs g → GBox Y Bs g) (hK2 : ∀ X Y, Kp X Y → X.heap.size ≤ Y.heap.size) (hg : g.ok) (w : World) (hb : Bs < n₀) (hn₀ : n₀ ≤ w.heap.size) (hB : GBox w Bs g) :
    SeqOffers Fence.wide n Tryz.prog 60 #[.pointer (some ⟨Bs, 0, none⟩)] (encR g) Kp (fun pre k _ => k = pre.length ∧ k < rectsN g) (fun ys => ys = List.range (rectsN g)) (fun pre => ∃ k, k ≤ rectsN g ∧ pre = List.range k) (rectsN g) w := fun l J Jx W hW hJ _ hY h0 =>
  rects1_inK Kp n hn l Bs n₀ g hK1 hK2 hg hb J Jx _ hJ (fun k W1 hk hj => hY (List.range k) k W1 hj ⟨by simp, hk⟩ (by simp; exact hk)) W (Nat.le_trans hn₀ hW.size) (hB.below (hW.mono hn₀) hb) h0
end Go.Proofs.YtneakieigiafpaaGreatDoor
