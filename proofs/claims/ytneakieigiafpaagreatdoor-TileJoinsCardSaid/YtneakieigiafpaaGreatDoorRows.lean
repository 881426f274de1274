/-
  NARROWER THAN 'FOR EVERY INPUT', by the rows' own cells (each row's printed sentence says how): TrapNames: laid · RefineNames: laid · TileNames: laid · StoreNames: laid · TileGrids: laid · TilePlaces: laid · TileNone: laid · TileLong: laid · StoreNone: laid · TileJoins: laid.
  DERIVED. THE GIVEN ROWS OF THIS SEAT. 10 by the template 'for every input the law returns true; each argument reads behind the call as it read before'; 0 by the template 'total and deterministic' (their statements: YtneakieigiafpaaGreatDoorTotals.lean).
  GIVEN WITH THE SEED: the statements are not yours to turn. If you find one false, say at which input.
  Laid BY PROGRAM, IN A SANDBOX (cutbox-rows.mjs): the forced cells as the released guide's own fill.sh prints them over the translation 3bc722958a0f5147… (all of the seat's roots in one cut). By AI agents, Wed Nov 11 2026. No macro, syntax, notation, axiom, sorry.
-/
import Derived.Test.YtneakieigiafpaaGreatDoorChecked
import GoSem.Claim
import GoSem.ClaimJoined
import GoSem.ClaimMapViews
import Derived.JoinedTies
import Derived.KernelRfl
namespace Go.Proofs.YtneakieigiafpaaGreatDoor
/- THE CELL 'sum', in the pinned program and in every row, IS THE sha256 OF THE DUMP (.gsa) THAT YtneakieigiafpaaGreatDoorProg.lean LOADS. Nothing in Lean hashes anything: it is a label: what it is worth is what the hold of that sum in a sandbox is worth. -/
noncomputable def Tryz.pinned : Pinned := { name := "ytneakieigiafpaagreatdoor", sum := "3bc722958a0f514724c62560bce1282497e2f25b029f4eae6ceeac3d4733c30d", checked := Tryz.checked }
namespace Rows
def none {H : Type} : Left H := { results := [], args := [] }

/- WHAT THE LISTED PACKAGE-LEVEL VARIABLES READ AS WHEN THE CALL BEGINS. Each datum BY PROGRAM (the guide's laid-datum.mjs) off the statement by which the dump's own 'gosem.cut.vars' lays the variable. In a bare row this is a premise. The card (YtneakieigiafpaaGreatDoorCards.lean) ties it to the program's text. -/
def laid_math_bits_deBruijn64tab {H : Type} : DataW H := .agg [.lit (.int .u8 0), .lit (.int .u8 1), .lit (.int .u8 56), .lit (.int .u8 2), .lit (.int .u8 57), .lit (.int .u8 49), .lit (.int .u8 28), .lit (.int .u8 3), .lit (.int .u8 61), .lit (.int .u8 58), .lit (.int .u8 42), .lit (.int .u8 50), .lit (.int .u8 38), .lit (.int .u8 29), .lit (.int .u8 17), .lit (.int .u8 4), .lit (.int .u8 62), .lit (.int .u8 47), .lit (.int .u8 59), .lit (.int .u8 36), .lit (.int .u8 45), .lit (.int .u8 43), .lit (.int .u8 51), .lit (.int .u8 22), .lit (.int .u8 53), .lit (.int .u8 39), .lit (.int .u8 33), .lit (.int .u8 30), .lit (.int .u8 24), .lit (.int .u8 18), .lit (.int .u8 12), .lit (.int .u8 5), .lit (.int .u8 63), .lit (.int .u8 55), .lit (.int .u8 48), .lit (.int .u8 27), .lit (.int .u8 60), .lit (.int .u8 41), .lit (.int .u8 37), .lit (.int .u8 16), .lit (.int .u8 46), .lit (.int .u8 35), .lit (.int .u8 44), .lit (.int .u8 21), .lit (.int .u8 52), .lit (.int .u8 32), .lit (.int .u8 23), .lit (.int .u8 11), .lit (.int .u8 54), .lit (.int .u8 26), .lit (.int .u8 40), .lit (.int .u8 15), .lit (.int .u8 34), .lit (.int .u8 20), .lit (.int .u8 31), .lit (.int .u8 10), .lit (.int .u8 25), .lit (.int .u8 14), .lit (.int .u8 19), .lit (.int .u8 9), .lit (.int .u8 13), .lit (.int .u8 8), .lit (.int .u8 7), .lit (.int .u8 6)]
def laid_math_bits_deBruijn32tab {H : Type} : DataW H := .agg [.lit (.int .u8 0), .lit (.int .u8 1), .lit (.int .u8 28), .lit (.int .u8 2), .lit (.int .u8 29), .lit (.int .u8 14), .lit (.int .u8 24), .lit (.int .u8 3), .lit (.int .u8 30), .lit (.int .u8 22), .lit (.int .u8 20), .lit (.int .u8 15), .lit (.int .u8 25), .lit (.int .u8 17), .lit (.int .u8 4), .lit (.int .u8 8), .lit (.int .u8 31), .lit (.int .u8 27), .lit (.int .u8 13), .lit (.int .u8 23), .lit (.int .u8 21), .lit (.int .u8 19), .lit (.int .u8 16), .lit (.int .u8 7), .lit (.int .u8 26), .lit (.int .u8 12), .lit (.int .u8 18), .lit (.int .u8 6), .lit (.int .u8 11), .lit (.int .u8 5), .lit (.int .u8 10), .lit (.int .u8 9)]

/-- 'filigreelaw18.TrapNames': WHATEVER THE INPUT: true; the input reads as it did. -/
def trapNamesSpec : ChangeSpec := { name := "trapNames", fn := fun _ => fun
  | [] => { results := [.lit (.bool true)], args := [] }
  | _ => none }
def trapNamesRow : OpenClaim := { program := "ytneakieigiafpaagreatdoor", sum := "3bc722958a0f514724c62560bce1282497e2f25b029f4eae6ceeac3d4733c30d", func := "filigree/filigreelaw18.TrapNames", spec := "trapNames", inPlace := ["math.Float64bits", "math.Float64frombits", "math.sqrt"], unfollowed := true, recurses := true, named := ["math/bits.deBruijn64tab"], apart := false, laid := [("math/bits.deBruijn64tab", laid_math_bits_deBruijn64tab)] }
def TrapNamesSaid : Prop := trapNamesRow.holds Tryz.pinned (OpenSpec.ofChange trapNamesSpec)

/-- ITS FALSE NEIGHBOUR: 'it returns false'. Refute it at one input. -/
def trapNamesWrong : ChangeSpec := { name := "trapNames", fn := fun _ => fun
  | [] => { results := [.lit (.bool false)], args := [] }
  | _ => none }
def TrapNamesWrongFalsely : Prop := trapNamesRow.holds Tryz.pinned (OpenSpec.ofChange trapNamesWrong)

/-- 'filigreelaw27.RefineNames': WHATEVER THE INPUT: true; the input reads as it did. -/
def refineNamesSpec : ChangeSpec := { name := "refineNames", fn := fun _ => fun
  | [] => { results := [.lit (.bool true)], args := [] }
  | _ => none }
def refineNamesRow : OpenClaim := { program := "ytneakieigiafpaagreatdoor", sum := "3bc722958a0f514724c62560bce1282497e2f25b029f4eae6ceeac3d4733c30d", func := "filigree/filigreelaw27.RefineNames", spec := "refineNames", inPlace := ["math.Float64bits", "math.Float64frombits"], unfollowed := true, recurses := true, named := ["math/bits.deBruijn32tab"], apart := false, laid := [("math/bits.deBruijn32tab", laid_math_bits_deBruijn32tab)] }
def RefineNamesSaid : Prop := refineNamesRow.holds Tryz.pinned (OpenSpec.ofChange refineNamesSpec)

/-- ITS FALSE NEIGHBOUR: 'it returns false'. Refute it at one input. -/
def refineNamesWrong : ChangeSpec := { name := "refineNames", fn := fun _ => fun
  | [] => { results := [.lit (.bool false)], args := [] }
  | _ => none }
def RefineNamesWrongFalsely : Prop := refineNamesRow.holds Tryz.pinned (OpenSpec.ofChange refineNamesWrong)

/-- 'filigreelaw25.TileNames': WHATEVER THE INPUT: true; the input reads as it did. -/
def tileNamesSpec : ChangeSpec := { name := "tileNames", fn := fun _ => fun
  | [] => { results := [.lit (.bool true)], args := [] }
  | _ => none }
def tileNamesRow : OpenClaim := { program := "ytneakieigiafpaagreatdoor", sum := "3bc722958a0f514724c62560bce1282497e2f25b029f4eae6ceeac3d4733c30d", func := "filigree/filigreelaw25.TileNames", spec := "tileNames", inPlace := ["math.Float64bits", "math.Float64frombits", "math.sqrt"], unfollowed := true, recurses := true, named := ["math/bits.deBruijn32tab", "math/bits.deBruijn64tab"], apart := false, laid := [("math/bits.deBruijn32tab", laid_math_bits_deBruijn32tab), ("math/bits.deBruijn64tab", laid_math_bits_deBruijn64tab)] }
def TileNamesSaid : Prop := tileNamesRow.holds Tryz.pinned (OpenSpec.ofChange tileNamesSpec)

/-- ITS FALSE NEIGHBOUR: 'it returns false'. Refute it at one input. -/
def tileNamesWrong : ChangeSpec := { name := "tileNames", fn := fun _ => fun
  | [] => { results := [.lit (.bool false)], args := [] }
  | _ => none }
def TileNamesWrongFalsely : Prop := tileNamesRow.holds Tryz.pinned (OpenSpec.ofChange tileNamesWrong)

/-- 'filigreelaw28.StoreNames': WHATEVER THE INPUT: true; the input reads as it did. -/
def storeNamesSpec : ChangeSpec := { name := "storeNames", fn := fun _ => fun
  | [] => { results := [.lit (.bool true)], args := [] }
  | _ => none }
def storeNamesRow : OpenClaim := { program := "ytneakieigiafpaagreatdoor", sum := "3bc722958a0f514724c62560bce1282497e2f25b029f4eae6ceeac3d4733c30d", func := "filigree/filigreelaw28.StoreNames", spec := "storeNames", inPlace := ["math.Float64bits", "math.Float64frombits", "math.sqrt"], unfollowed := true, recurses := true, named := ["math/bits.deBruijn32tab", "math/bits.deBruijn64tab"], apart := false, laid := [("math/bits.deBruijn32tab", laid_math_bits_deBruijn32tab), ("math/bits.deBruijn64tab", laid_math_bits_deBruijn64tab)] }
def StoreNamesSaid : Prop := storeNamesRow.holds Tryz.pinned (OpenSpec.ofChange storeNamesSpec)

/-- ITS FALSE NEIGHBOUR: 'it returns false'. Refute it at one input. -/
def storeNamesWrong : ChangeSpec := { name := "storeNames", fn := fun _ => fun
  | [] => { results := [.lit (.bool false)], args := [] }
  | _ => none }
def StoreNamesWrongFalsely : Prop := storeNamesRow.holds Tryz.pinned (OpenSpec.ofChange storeNamesWrong)

/-- 'filigreelaw25.TileGrids': WHATEVER THE INPUT: true; the input reads as it did. -/
def tileGridsSpec : ChangeSpec := { name := "tileGrids", fn := fun _ => fun
  | [d1, d2, d3, d4, d5] => { results := [.lit (.bool true)], args := [d1, d2, d3, d4, d5] }
  | _ => none }
def tileGridsRow : OpenClaim := { program := "ytneakieigiafpaagreatdoor", sum := "3bc722958a0f514724c62560bce1282497e2f25b029f4eae6ceeac3d4733c30d", func := "filigree/filigreelaw25.TileGrids", spec := "tileGrids", inPlace := ["math.Float64bits", "math.Float64frombits", "math.sqrt"], unfollowed := true, recurses := true, named := ["math/bits.deBruijn32tab", "math/bits.deBruijn64tab"], apart := false, laid := [("math/bits.deBruijn32tab", laid_math_bits_deBruijn32tab), ("math/bits.deBruijn64tab", laid_math_bits_deBruijn64tab)] }
def TileGridsSaid : Prop := tileGridsRow.holds Tryz.pinned (OpenSpec.ofChange tileGridsSpec)

/-- ITS FALSE NEIGHBOUR: 'it returns false'. Refute it at one input. -/
def tileGridsWrong : ChangeSpec := { name := "tileGrids", fn := fun _ => fun
  | [d1, d2, d3, d4, d5] => { results := [.lit (.bool false)], args := [d1, d2, d3, d4, d5] }
  | _ => none }
def TileGridsWrongFalsely : Prop := tileGridsRow.holds Tryz.pinned (OpenSpec.ofChange tileGridsWrong)

/-- 'filigreelaw25.TilePlaces': WHATEVER THE INPUT: true; the input reads as it did. -/
def tilePlacesSpec : ChangeSpec := { name := "tilePlaces", fn := fun _ => fun
  | [d1, d2, d3] => { results := [.lit (.bool true)], args := [d1, d2, d3] }
  | _ => none }
def tilePlacesRow : OpenClaim := { program := "ytneakieigiafpaagreatdoor", sum := "3bc722958a0f514724c62560bce1282497e2f25b029f4eae6ceeac3d4733c30d", func := "filigree/filigreelaw25.TilePlaces", spec := "tilePlaces", inPlace := ["math.Float64bits", "math.Float64frombits", "math.sqrt"], unfollowed := true, recurses := true, named := ["math/bits.deBruijn32tab", "math/bits.deBruijn64tab"], apart := false, laid := [("math/bits.deBruijn32tab", laid_math_bits_deBruijn32tab), ("math/bits.deBruijn64tab", laid_math_bits_deBruijn64tab)] }
def TilePlacesSaid : Prop := tilePlacesRow.holds Tryz.pinned (OpenSpec.ofChange tilePlacesSpec)

/-- ITS FALSE NEIGHBOUR: 'it returns false'. Refute it at one input. -/
def tilePlacesWrong : ChangeSpec := { name := "tilePlaces", fn := fun _ => fun
  | [d1, d2, d3] => { results := [.lit (.bool false)], args := [d1, d2, d3] }
  | _ => none }
def TilePlacesWrongFalsely : Prop := tilePlacesRow.holds Tryz.pinned (OpenSpec.ofChange tilePlacesWrong)

/-- 'filigreelaw25.TileNone': WHATEVER THE INPUT: true; the input reads as it did. -/
def tileNoneSpec : ChangeSpec := { name := "tileNone", fn := fun _ => fun
  | [d1, d2, d3] => { results := [.lit (.bool true)], args := [d1, d2, d3] }
  | _ => none }
def tileNoneRow : OpenClaim := { program := "ytneakieigiafpaagreatdoor", sum := "3bc722958a0f514724c62560bce1282497e2f25b029f4eae6ceeac3d4733c30d", func := "filigree/filigreelaw25.TileNone", spec := "tileNone", inPlace := ["math.Float64bits", "math.Float64frombits", "math.sqrt"], unfollowed := true, recurses := true, named := ["math/bits.deBruijn32tab", "math/bits.deBruijn64tab"], apart := false, laid := [("math/bits.deBruijn32tab", laid_math_bits_deBruijn32tab), ("math/bits.deBruijn64tab", laid_math_bits_deBruijn64tab)] }
def TileNoneSaid : Prop := tileNoneRow.holds Tryz.pinned (OpenSpec.ofChange tileNoneSpec)

/-- ITS FALSE NEIGHBOUR: 'it returns false'. Refute it at one input. -/
def tileNoneWrong : ChangeSpec := { name := "tileNone", fn := fun _ => fun
  | [d1, d2, d3] => { results := [.lit (.bool false)], args := [d1, d2, d3] }
  | _ => none }
def TileNoneWrongFalsely : Prop := tileNoneRow.holds Tryz.pinned (OpenSpec.ofChange tileNoneWrong)

/-- 'filigreelaw25.TileLong': WHATEVER THE INPUT: true; the input reads as it did. -/
def tileLongSpec : ChangeSpec := { name := "tileLong", fn := fun _ => fun
  | [] => { results := [.lit (.bool true)], args := [] }
  | _ => none }
def tileLongRow : OpenClaim := { program := "ytneakieigiafpaagreatdoor", sum := "3bc722958a0f514724c62560bce1282497e2f25b029f4eae6ceeac3d4733c30d", func := "filigree/filigreelaw25.TileLong", spec := "tileLong", inPlace := ["math.Float64bits", "math.Float64frombits", "math.sqrt"], unfollowed := true, recurses := true, named := ["math/bits.deBruijn32tab", "math/bits.deBruijn64tab"], apart := false, laid := [("math/bits.deBruijn32tab", laid_math_bits_deBruijn32tab), ("math/bits.deBruijn64tab", laid_math_bits_deBruijn64tab)] }
def TileLongSaid : Prop := tileLongRow.holds Tryz.pinned (OpenSpec.ofChange tileLongSpec)

/-- ITS FALSE NEIGHBOUR: 'it returns false'. Refute it at one input. -/
def tileLongWrong : ChangeSpec := { name := "tileLong", fn := fun _ => fun
  | [] => { results := [.lit (.bool false)], args := [] }
  | _ => none }
def TileLongWrongFalsely : Prop := tileLongRow.holds Tryz.pinned (OpenSpec.ofChange tileLongWrong)

/-- 'filigreelaw28.StoreNone': WHATEVER THE INPUT: true; the input reads as it did. -/
def storeNoneSpec : ChangeSpec := { name := "storeNone", fn := fun _ => fun
  | [d] => { results := [.lit (.bool true)], args := [d] }
  | _ => none }
def storeNoneRow : OpenClaim := { program := "ytneakieigiafpaagreatdoor", sum := "3bc722958a0f514724c62560bce1282497e2f25b029f4eae6ceeac3d4733c30d", func := "filigree/filigreelaw28.StoreNone", spec := "storeNone", inPlace := ["math.Float64bits", "math.Float64frombits", "math.sqrt"], unfollowed := true, recurses := true, named := ["math/bits.deBruijn32tab", "math/bits.deBruijn64tab"], apart := false, laid := [("math/bits.deBruijn32tab", laid_math_bits_deBruijn32tab), ("math/bits.deBruijn64tab", laid_math_bits_deBruijn64tab)] }
def StoreNoneSaid : Prop := storeNoneRow.holds Tryz.pinned (OpenSpec.ofChange storeNoneSpec)

/-- ITS FALSE NEIGHBOUR: 'it returns false'. Refute it at one input. -/
def storeNoneWrong : ChangeSpec := { name := "storeNone", fn := fun _ => fun
  | [d] => { results := [.lit (.bool false)], args := [d] }
  | _ => none }
def StoreNoneWrongFalsely : Prop := storeNoneRow.holds Tryz.pinned (OpenSpec.ofChange storeNoneWrong)

/-- 'filigreelaw25.TileJoins': WHATEVER THE INPUT: true; the input reads as it did. -/
def tileJoinsSpec : ChangeSpec := { name := "tileJoins", fn := fun _ => fun
  | [d1, d2, d3, d4] => { results := [.lit (.bool true)], args := [d1, d2, d3, d4] }
  | _ => none }
def tileJoinsRow : OpenClaim := { program := "ytneakieigiafpaagreatdoor", sum := "3bc722958a0f514724c62560bce1282497e2f25b029f4eae6ceeac3d4733c30d", func := "filigree/filigreelaw25.TileJoins", spec := "tileJoins", inPlace := ["math.Float64bits", "math.Float64frombits", "math.sqrt"], unfollowed := true, recurses := true, named := ["math/bits.deBruijn32tab", "math/bits.deBruijn64tab"], apart := false, laid := [("math/bits.deBruijn32tab", laid_math_bits_deBruijn32tab), ("math/bits.deBruijn64tab", laid_math_bits_deBruijn64tab)] }
def TileJoinsSaid : Prop := tileJoinsRow.holds Tryz.pinned (OpenSpec.ofChange tileJoinsSpec)

/-- ITS FALSE NEIGHBOUR: 'it returns false'. Refute it at one input. -/
def tileJoinsWrong : ChangeSpec := { name := "tileJoins", fn := fun _ => fun
  | [d1, d2, d3, d4] => { results := [.lit (.bool false)], args := [d1, d2, d3, d4] }
  | _ => none }
def TileJoinsWrongFalsely : Prop := tileJoinsRow.holds Tryz.pinned (OpenSpec.ofChange tileJoinsWrong)

/- THE SECOND FORM. 'bulk': how many values and letters a reading holds, each counted each time it is reached (what is shared counts as often as it is met; a slice's spare places count too). A statement '..UptoSaid' is the law's where the arguments, and the package variables that the reading takes, are together of bulk at most 1048576: NARROWER than '..Said'. Prove '..Said' where nothing that the law and all that it calls make is longer than what came in: it says more and counts as full. Else prove '..UptoSaid'. A law counts once. -/
mutual
def uptoBulk {H : Type} : DataW H → Nat
  | .lit (.string bytes) => bytes.length + 1
  | .lit _ => 1
  | .nil => 1
  | .ptr d => uptoBulk d + 1
  | .slice elems spare => uptoBulkAll elems + uptoBulkAll spare + 1
  | .agg parts => uptoBulkAll parts + 1
  | .iface _ d => uptoBulk d + 1
  | .map entries => uptoBulkEntries entries + 1
  | .held _ => 1
def uptoBulkAll {H : Type} : List (DataW H) → Nat
  | [] => 0
  | d :: r => uptoBulk d + uptoBulkAll r
def uptoBulkEntries {H : Type} : List (Lit × DataW H) → Nat
  | [] => 0
  | x :: r => uptoBulkEntry x + uptoBulkEntries r
def uptoBulkEntry {H : Type} : Lit × DataW H → Nat
  | (.string bytes, d) => bytes.length + uptoBulk d + 1
  | (_, d) => uptoBulk d + 1
 end
def uptoSmall : (H : Type) → List (DataW H) → Bool := fun _ ds => decide (uptoBulkAll ds ≤ 1048576)
def OpenSpec.upto (s : _root_.Go.ChangeSpec) : _root_.Go.OpenSpec := { _root_.Go.OpenSpec.ofChange s with cond := some uptoSmall }

/-- 'filigreelaw18.TrapNames', WHERE WHAT IT READS IS OF BULK AT MOST 1048576: true; the input reads as it did. -/
def trapNamesUptoRow : OpenClaim := { program := "ytneakieigiafpaagreatdoor", sum := "3bc722958a0f514724c62560bce1282497e2f25b029f4eae6ceeac3d4733c30d", func := "filigree/filigreelaw18.TrapNames", spec := "trapNames", inPlace := ["math.Float64bits", "math.Float64frombits", "math.sqrt"], unfollowed := true, recurses := true, named := ["math/bits.deBruijn64tab"], apart := false, laid := [("math/bits.deBruijn64tab", laid_math_bits_deBruijn64tab)], narrowed := true }
def TrapNamesUptoSaid : Prop := trapNamesUptoRow.holds Tryz.pinned (OpenSpec.upto trapNamesSpec)

/-- 'filigreelaw27.RefineNames', WHERE WHAT IT READS IS OF BULK AT MOST 1048576: true; the input reads as it did. -/
def refineNamesUptoRow : OpenClaim := { program := "ytneakieigiafpaagreatdoor", sum := "3bc722958a0f514724c62560bce1282497e2f25b029f4eae6ceeac3d4733c30d", func := "filigree/filigreelaw27.RefineNames", spec := "refineNames", inPlace := ["math.Float64bits", "math.Float64frombits"], unfollowed := true, recurses := true, named := ["math/bits.deBruijn32tab"], apart := false, laid := [("math/bits.deBruijn32tab", laid_math_bits_deBruijn32tab)], narrowed := true }
def RefineNamesUptoSaid : Prop := refineNamesUptoRow.holds Tryz.pinned (OpenSpec.upto refineNamesSpec)

/-- 'filigreelaw25.TileNames', WHERE WHAT IT READS IS OF BULK AT MOST 1048576: true; the input reads as it did. -/
def tileNamesUptoRow : OpenClaim := { program := "ytneakieigiafpaagreatdoor", sum := "3bc722958a0f514724c62560bce1282497e2f25b029f4eae6ceeac3d4733c30d", func := "filigree/filigreelaw25.TileNames", spec := "tileNames", inPlace := ["math.Float64bits", "math.Float64frombits", "math.sqrt"], unfollowed := true, recurses := true, named := ["math/bits.deBruijn32tab", "math/bits.deBruijn64tab"], apart := false, laid := [("math/bits.deBruijn32tab", laid_math_bits_deBruijn32tab), ("math/bits.deBruijn64tab", laid_math_bits_deBruijn64tab)], narrowed := true }
def TileNamesUptoSaid : Prop := tileNamesUptoRow.holds Tryz.pinned (OpenSpec.upto tileNamesSpec)

/-- 'filigreelaw28.StoreNames', WHERE WHAT IT READS IS OF BULK AT MOST 1048576: true; the input reads as it did. -/
def storeNamesUptoRow : OpenClaim := { program := "ytneakieigiafpaagreatdoor", sum := "3bc722958a0f514724c62560bce1282497e2f25b029f4eae6ceeac3d4733c30d", func := "filigree/filigreelaw28.StoreNames", spec := "storeNames", inPlace := ["math.Float64bits", "math.Float64frombits", "math.sqrt"], unfollowed := true, recurses := true, named := ["math/bits.deBruijn32tab", "math/bits.deBruijn64tab"], apart := false, laid := [("math/bits.deBruijn32tab", laid_math_bits_deBruijn32tab), ("math/bits.deBruijn64tab", laid_math_bits_deBruijn64tab)], narrowed := true }
def StoreNamesUptoSaid : Prop := storeNamesUptoRow.holds Tryz.pinned (OpenSpec.upto storeNamesSpec)

/-- 'filigreelaw25.TileGrids', WHERE WHAT IT READS IS OF BULK AT MOST 1048576: true; the input reads as it did. -/
def tileGridsUptoRow : OpenClaim := { program := "ytneakieigiafpaagreatdoor", sum := "3bc722958a0f514724c62560bce1282497e2f25b029f4eae6ceeac3d4733c30d", func := "filigree/filigreelaw25.TileGrids", spec := "tileGrids", inPlace := ["math.Float64bits", "math.Float64frombits", "math.sqrt"], unfollowed := true, recurses := true, named := ["math/bits.deBruijn32tab", "math/bits.deBruijn64tab"], apart := false, laid := [("math/bits.deBruijn32tab", laid_math_bits_deBruijn32tab), ("math/bits.deBruijn64tab", laid_math_bits_deBruijn64tab)], narrowed := true }
def TileGridsUptoSaid : Prop := tileGridsUptoRow.holds Tryz.pinned (OpenSpec.upto tileGridsSpec)

/-- 'filigreelaw25.TilePlaces', WHERE WHAT IT READS IS OF BULK AT MOST 1048576: true; the input reads as it did. -/
def tilePlacesUptoRow : OpenClaim := { program := "ytneakieigiafpaagreatdoor", sum := "3bc722958a0f514724c62560bce1282497e2f25b029f4eae6ceeac3d4733c30d", func := "filigree/filigreelaw25.TilePlaces", spec := "tilePlaces", inPlace := ["math.Float64bits", "math.Float64frombits", "math.sqrt"], unfollowed := true, recurses := true, named := ["math/bits.deBruijn32tab", "math/bits.deBruijn64tab"], apart := false, laid := [("math/bits.deBruijn32tab", laid_math_bits_deBruijn32tab), ("math/bits.deBruijn64tab", laid_math_bits_deBruijn64tab)], narrowed := true }
def TilePlacesUptoSaid : Prop := tilePlacesUptoRow.holds Tryz.pinned (OpenSpec.upto tilePlacesSpec)

/-- 'filigreelaw25.TileNone', WHERE WHAT IT READS IS OF BULK AT MOST 1048576: true; the input reads as it did. -/
def tileNoneUptoRow : OpenClaim := { program := "ytneakieigiafpaagreatdoor", sum := "3bc722958a0f514724c62560bce1282497e2f25b029f4eae6ceeac3d4733c30d", func := "filigree/filigreelaw25.TileNone", spec := "tileNone", inPlace := ["math.Float64bits", "math.Float64frombits", "math.sqrt"], unfollowed := true, recurses := true, named := ["math/bits.deBruijn32tab", "math/bits.deBruijn64tab"], apart := false, laid := [("math/bits.deBruijn32tab", laid_math_bits_deBruijn32tab), ("math/bits.deBruijn64tab", laid_math_bits_deBruijn64tab)], narrowed := true }
def TileNoneUptoSaid : Prop := tileNoneUptoRow.holds Tryz.pinned (OpenSpec.upto tileNoneSpec)

/-- 'filigreelaw25.TileLong', WHERE WHAT IT READS IS OF BULK AT MOST 1048576: true; the input reads as it did. -/
def tileLongUptoRow : OpenClaim := { program := "ytneakieigiafpaagreatdoor", sum := "3bc722958a0f514724c62560bce1282497e2f25b029f4eae6ceeac3d4733c30d", func := "filigree/filigreelaw25.TileLong", spec := "tileLong", inPlace := ["math.Float64bits", "math.Float64frombits", "math.sqrt"], unfollowed := true, recurses := true, named := ["math/bits.deBruijn32tab", "math/bits.deBruijn64tab"], apart := false, laid := [("math/bits.deBruijn32tab", laid_math_bits_deBruijn32tab), ("math/bits.deBruijn64tab", laid_math_bits_deBruijn64tab)], narrowed := true }
def TileLongUptoSaid : Prop := tileLongUptoRow.holds Tryz.pinned (OpenSpec.upto tileLongSpec)

/-- 'filigreelaw28.StoreNone', WHERE WHAT IT READS IS OF BULK AT MOST 1048576: true; the input reads as it did. -/
def storeNoneUptoRow : OpenClaim := { program := "ytneakieigiafpaagreatdoor", sum := "3bc722958a0f514724c62560bce1282497e2f25b029f4eae6ceeac3d4733c30d", func := "filigree/filigreelaw28.StoreNone", spec := "storeNone", inPlace := ["math.Float64bits", "math.Float64frombits", "math.sqrt"], unfollowed := true, recurses := true, named := ["math/bits.deBruijn32tab", "math/bits.deBruijn64tab"], apart := false, laid := [("math/bits.deBruijn32tab", laid_math_bits_deBruijn32tab), ("math/bits.deBruijn64tab", laid_math_bits_deBruijn64tab)], narrowed := true }
def StoreNoneUptoSaid : Prop := storeNoneUptoRow.holds Tryz.pinned (OpenSpec.upto storeNoneSpec)

/-- 'filigreelaw25.TileJoins', WHERE WHAT IT READS IS OF BULK AT MOST 1048576: true; the input reads as it did. -/
def tileJoinsUptoRow : OpenClaim := { program := "ytneakieigiafpaagreatdoor", sum := "3bc722958a0f514724c62560bce1282497e2f25b029f4eae6ceeac3d4733c30d", func := "filigree/filigreelaw25.TileJoins", spec := "tileJoins", inPlace := ["math.Float64bits", "math.Float64frombits", "math.sqrt"], unfollowed := true, recurses := true, named := ["math/bits.deBruijn32tab", "math/bits.deBruijn64tab"], apart := false, laid := [("math/bits.deBruijn32tab", laid_math_bits_deBruijn32tab), ("math/bits.deBruijn64tab", laid_math_bits_deBruijn64tab)], narrowed := true }
def TileJoinsUptoSaid : Prop := tileJoinsUptoRow.holds Tryz.pinned (OpenSpec.upto tileJoinsSpec)

end Rows
end Go.Proofs.YtneakieigiafpaaGreatDoor
