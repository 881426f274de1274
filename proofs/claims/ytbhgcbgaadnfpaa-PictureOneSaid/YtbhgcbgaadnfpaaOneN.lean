/- The law PictureOne, walked. -/
import Derived.Test.YtbhgcbgaadnfpaaOneR
import Derived.Test.YtbhgcbgaadnfpaaOneC
import Derived.Test.YtbhgcbgaadnfpaaRowsC
import Derived.Test.YtbhgcbgaadnfpaaCnt
import Derived.Test.YtbhgcbgaadnfpaaAt
import Derived.Test.YtbhgcbgaadnfpaaKept
import Derived.Test.YtbhgcbgaadnfpaaLent
import Derived.Test.YtbhgcbgaadnfpaaPicY
import Derived.Test.YtbhgcbgaadnfpaaRefA
import Derived.Outline
namespace Go.Proofs.Ytbhgcbgaadnfpaa
open Go.RowKit Go.Shelf

/-- No panic goes out. -/
def NoPan (Q : Exit → Act → World → Prop) : Exit → Act → World → Prop
  | .panic _, _, _ => False
  | e, a, w => Q e a w
theorem noPan_of {Q : Exit → Act → World → Prop} : ∀ (e : Exit) (a : Act) (w : World), NoPan Q e a w → Q e a w := fun e a w h => by
  cases e <;> first | exact h.elim | exact h
end Go.Proofs.Ytbhgcbgaadnfpaa
