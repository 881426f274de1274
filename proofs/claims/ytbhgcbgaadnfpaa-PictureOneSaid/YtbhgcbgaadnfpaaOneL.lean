/- The law PictureOne, walked. -/
import Derived.Test.YtbhgcbgaadnfpaaOneB
import Derived.Test.YtbhgcbgaadnfpaaOneI
import Derived.Test.YtbhgcbgaadnfpaaOneO
namespace Go.Proofs.Ytbhgcbgaadnfpaa
open Go.RowKit

theorem one_any (p q : PicD) (A A' : Option Addr) (n c n' c' : Nat) (col row most : Int) (w : World) (hp : PicAt w p A n c) (hq : PicAt w q A' n' c') (hn : n + 1 ≤ 140737488355328) (hmo : -9223372036854775808 ≤ most ∧ most ≤ 9223372036854775807) :
    Calls Try.prog 6 #[.agg #[.int .i64 p.a, .int .i64 p.d, .slice A n c], .agg #[.int .i64 q.a, .int .i64 q.d, .slice A' n' c'], .int .i64 col, .int .i64 row, .int .i64 most] w fun e w' => e = .returned (.bool true) ∧ Kept w w' := by
  cases hm : mayB p.a p.d n with
  | false => exact one_bad p.a p.d q.a q.d A A' n c n' c' p.g q.g col row most w hp.a0 hp.a1 hp.d0 hp.d1 hn hp.cap hp.len hq.len hp.row hq.row hm
  | true =>
    cases hin : inB p.a p.d col row with
    | true => exact one_good_in p.a p.d q.a q.d A A' n c n' c' p.g q.g col row most w hp.a0 hp.a1 hp.d0 hp.d1 hn hp.cap hp.len hq.len hp.row hq.row hm hmo hin
    | false => exact one_good_out p.a p.d q.a q.d A A' n c n' c' p.g q.g col row most w hp.a0 hp.a1 hp.d0 hp.d1 hn hp.cap hp.len hq.len hp.row hq.row hm hmo hin
end Go.Proofs.Ytbhgcbgaadnfpaa
