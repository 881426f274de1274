/-
  No cell of these rows narrows 'for every input' (looked for: loops, veiled, ifaces, maps, wideKeys, modest, calm, conditions, laid).
  DERIVED. THE GIVEN ROWS OF THIS SEAT. 9 by the template 'for every input the law returns true; each argument reads behind the call as it read before'; 0 by the template 'total and deterministic' (their statements: YtbhgcbgaadnfpaaTotals.lean).
  GIVEN WITH THE SEED: the statements are not yours to turn. If you find one false, say at which input.
  Laid BY PROGRAM, IN A SANDBOX (cutbox-rows.mjs): the forced cells as the released guide's own fill.sh prints them over the translation 679949d85cda53d4… (all of the seat's roots in one cut). By AI agents, Wed Nov 11 2026. No macro, syntax, notation, axiom, sorry.
-/
import Derived.Test.YtbhgcbgaadnfpaaChecked
import GoSem.Claim
import GoSem.ClaimJoined
import GoSem.ClaimMapViews
import Derived.JoinedTies
import Derived.KernelRfl
namespace Go.Proofs.Ytbhgcbgaadnfpaa
/- THE CELL 'sum', in the pinned program and in every row, IS THE sha256 OF THE DUMP (.gsa) THAT YtbhgcbgaadnfpaaProg.lean LOADS. Nothing in Lean hashes anything: it is a label: what it is worth is what the hold of that sum in a sandbox is worth. -/
noncomputable def Try.pinned : Pinned := { name := "ytbhgcbgaadnfpaa", sum := "679949d85cda53d4ba2f78dccdf00fb45b54921774a20ae9096cddea636c0458", checked := Try.checked }
namespace Rows
def none {H : Type} : Left H := { results := [], args := [] }

/-- 'filigreelaw29.PictureBytes': WHATEVER THE INPUT: true; the input reads as it did. -/
def pictureBytesSpec : ChangeSpec := { name := "pictureBytes", fn := fun _ => fun
  | [d1, d2] => { results := [.lit (.bool true)], args := [d1, d2] }
  | _ => none }
def pictureBytesRow : OpenClaim := { program := "ytbhgcbgaadnfpaa", sum := "679949d85cda53d4ba2f78dccdf00fb45b54921774a20ae9096cddea636c0458", func := "filigree/filigreelaw29.PictureBytes", spec := "pictureBytes", unfollowed := true, recurses := true, apart := false }
def PictureBytesSaid : Prop := pictureBytesRow.holds Try.pinned (OpenSpec.ofChange pictureBytesSpec)

/-- ITS FALSE NEIGHBOUR: 'it returns false'. Refute it at one input. -/
def pictureBytesWrong : ChangeSpec := { name := "pictureBytes", fn := fun _ => fun
  | [d1, d2] => { results := [.lit (.bool false)], args := [d1, d2] }
  | _ => none }
def PictureBytesWrongFalsely : Prop := pictureBytesRow.holds Try.pinned (OpenSpec.ofChange pictureBytesWrong)

/-- 'filigreelaw29.PictureBack': WHATEVER THE INPUT: true; the input reads as it did. -/
def pictureBackSpec : ChangeSpec := { name := "pictureBack", fn := fun _ => fun
  | [d1, d2, d3] => { results := [.lit (.bool true)], args := [d1, d2, d3] }
  | _ => none }
def pictureBackRow : OpenClaim := { program := "ytbhgcbgaadnfpaa", sum := "679949d85cda53d4ba2f78dccdf00fb45b54921774a20ae9096cddea636c0458", func := "filigree/filigreelaw29.PictureBack", spec := "pictureBack", unfollowed := true, recurses := true, apart := false }
def PictureBackSaid : Prop := pictureBackRow.holds Try.pinned (OpenSpec.ofChange pictureBackSpec)

/-- ITS FALSE NEIGHBOUR: 'it returns false'. Refute it at one input. -/
def pictureBackWrong : ChangeSpec := { name := "pictureBack", fn := fun _ => fun
  | [d1, d2, d3] => { results := [.lit (.bool false)], args := [d1, d2, d3] }
  | _ => none }
def PictureBackWrongFalsely : Prop := pictureBackRow.holds Try.pinned (OpenSpec.ofChange pictureBackWrong)

/-- 'filigreelaw29.PictureTold': WHATEVER THE INPUT: true; the input reads as it did. -/
def pictureToldSpec : ChangeSpec := { name := "pictureTold", fn := fun _ => fun
  | [d] => { results := [.lit (.bool true)], args := [d] }
  | _ => none }
def pictureToldRow : OpenClaim := { program := "ytbhgcbgaadnfpaa", sum := "679949d85cda53d4ba2f78dccdf00fb45b54921774a20ae9096cddea636c0458", func := "filigree/filigreelaw29.PictureTold", spec := "pictureTold", unfollowed := true, recurses := true, apart := false }
def PictureToldSaid : Prop := pictureToldRow.holds Try.pinned (OpenSpec.ofChange pictureToldSpec)

/-- ITS FALSE NEIGHBOUR: 'it returns false'. Refute it at one input. -/
def pictureToldWrong : ChangeSpec := { name := "pictureTold", fn := fun _ => fun
  | [d] => { results := [.lit (.bool false)], args := [d] }
  | _ => none }
def PictureToldWrongFalsely : Prop := pictureToldRow.holds Try.pinned (OpenSpec.ofChange pictureToldWrong)

/-- 'filigreelaw29.PictureOne': WHATEVER THE INPUT: true; the input reads as it did. -/
def pictureOneSpec : ChangeSpec := { name := "pictureOne", fn := fun _ => fun
  | [d1, d2, d3, d4, d5] => { results := [.lit (.bool true)], args := [d1, d2, d3, d4, d5] }
  | _ => none }
def pictureOneRow : OpenClaim := { program := "ytbhgcbgaadnfpaa", sum := "679949d85cda53d4ba2f78dccdf00fb45b54921774a20ae9096cddea636c0458", func := "filigree/filigreelaw29.PictureOne", spec := "pictureOne", unfollowed := true, recurses := true, apart := false }
def PictureOneSaid : Prop := pictureOneRow.holds Try.pinned (OpenSpec.ofChange pictureOneSpec)

/-- ITS FALSE NEIGHBOUR: 'it returns false'. Refute it at one input. -/
def pictureOneWrong : ChangeSpec := { name := "pictureOne", fn := fun _ => fun
  | [d1, d2, d3, d4, d5] => { results := [.lit (.bool false)], args := [d1, d2, d3, d4, d5] }
  | _ => none }
def PictureOneWrongFalsely : Prop := pictureOneRow.holds Try.pinned (OpenSpec.ofChange pictureOneWrong)

/-- 'filigreelaw29.PicturePuts': WHATEVER THE INPUT: true; the input reads as it did. -/
def picturePutsSpec : ChangeSpec := { name := "picturePuts", fn := fun _ => fun
  | [d1, d2, d3, d4, d5] => { results := [.lit (.bool true)], args := [d1, d2, d3, d4, d5] }
  | _ => none }
def picturePutsRow : OpenClaim := { program := "ytbhgcbgaadnfpaa", sum := "679949d85cda53d4ba2f78dccdf00fb45b54921774a20ae9096cddea636c0458", func := "filigree/filigreelaw29.PicturePuts", spec := "picturePuts", unfollowed := true, recurses := true, apart := false }
def PicturePutsSaid : Prop := picturePutsRow.holds Try.pinned (OpenSpec.ofChange picturePutsSpec)

/-- ITS FALSE NEIGHBOUR: 'it returns false'. Refute it at one input. -/
def picturePutsWrong : ChangeSpec := { name := "picturePuts", fn := fun _ => fun
  | [d1, d2, d3, d4, d5] => { results := [.lit (.bool false)], args := [d1, d2, d3, d4, d5] }
  | _ => none }
def PicturePutsWrongFalsely : Prop := picturePutsRow.holds Try.pinned (OpenSpec.ofChange picturePutsWrong)

/-- 'filigreelaw29.PictureCuts': WHATEVER THE INPUT: true; the input reads as it did. -/
def pictureCutsSpec : ChangeSpec := { name := "pictureCuts", fn := fun _ => fun
  | [d1, d2] => { results := [.lit (.bool true)], args := [d1, d2] }
  | _ => none }
def pictureCutsRow : OpenClaim := { program := "ytbhgcbgaadnfpaa", sum := "679949d85cda53d4ba2f78dccdf00fb45b54921774a20ae9096cddea636c0458", func := "filigree/filigreelaw29.PictureCuts", spec := "pictureCuts", unfollowed := true, recurses := true, apart := false }
def PictureCutsSaid : Prop := pictureCutsRow.holds Try.pinned (OpenSpec.ofChange pictureCutsSpec)

/-- ITS FALSE NEIGHBOUR: 'it returns false'. Refute it at one input. -/
def pictureCutsWrong : ChangeSpec := { name := "pictureCuts", fn := fun _ => fun
  | [d1, d2] => { results := [.lit (.bool false)], args := [d1, d2] }
  | _ => none }
def PictureCutsWrongFalsely : Prop := pictureCutsRow.holds Try.pinned (OpenSpec.ofChange pictureCutsWrong)

/-- 'filigreelaw29.PictureGreys': WHATEVER THE INPUT: true; the input reads as it did. -/
def pictureGreysSpec : ChangeSpec := { name := "pictureGreys", fn := fun _ => fun
  | [d1, d2, d3] => { results := [.lit (.bool true)], args := [d1, d2, d3] }
  | _ => none }
def pictureGreysRow : OpenClaim := { program := "ytbhgcbgaadnfpaa", sum := "679949d85cda53d4ba2f78dccdf00fb45b54921774a20ae9096cddea636c0458", func := "filigree/filigreelaw29.PictureGreys", spec := "pictureGreys", unfollowed := true, recurses := true, apart := false }
def PictureGreysSaid : Prop := pictureGreysRow.holds Try.pinned (OpenSpec.ofChange pictureGreysSpec)

/-- ITS FALSE NEIGHBOUR: 'it returns false'. Refute it at one input. -/
def pictureGreysWrong : ChangeSpec := { name := "pictureGreys", fn := fun _ => fun
  | [d1, d2, d3] => { results := [.lit (.bool false)], args := [d1, d2, d3] }
  | _ => none }
def PictureGreysWrongFalsely : Prop := pictureGreysRow.holds Try.pinned (OpenSpec.ofChange pictureGreysWrong)

/-- 'filigreelaw29.PictureSheets': WHATEVER THE INPUT: true; the input reads as it did. -/
def pictureSheetsSpec : ChangeSpec := { name := "pictureSheets", fn := fun _ => fun
  | [d1, d2] => { results := [.lit (.bool true)], args := [d1, d2] }
  | _ => none }
def pictureSheetsRow : OpenClaim := { program := "ytbhgcbgaadnfpaa", sum := "679949d85cda53d4ba2f78dccdf00fb45b54921774a20ae9096cddea636c0458", func := "filigree/filigreelaw29.PictureSheets", spec := "pictureSheets", unfollowed := true, recurses := true, apart := false }
def PictureSheetsSaid : Prop := pictureSheetsRow.holds Try.pinned (OpenSpec.ofChange pictureSheetsSpec)

/-- ITS FALSE NEIGHBOUR: 'it returns false'. Refute it at one input. -/
def pictureSheetsWrong : ChangeSpec := { name := "pictureSheets", fn := fun _ => fun
  | [d1, d2] => { results := [.lit (.bool false)], args := [d1, d2] }
  | _ => none }
def PictureSheetsWrongFalsely : Prop := pictureSheetsRow.holds Try.pinned (OpenSpec.ofChange pictureSheetsWrong)

/-- 'filigreelaw29.PictureSeam': WHATEVER THE INPUT: true; the input reads as it did. -/
def pictureSeamSpec : ChangeSpec := { name := "pictureSeam", fn := fun _ => fun
  | [d1, d2] => { results := [.lit (.bool true)], args := [d1, d2] }
  | _ => none }
def pictureSeamRow : OpenClaim := { program := "ytbhgcbgaadnfpaa", sum := "679949d85cda53d4ba2f78dccdf00fb45b54921774a20ae9096cddea636c0458", func := "filigree/filigreelaw29.PictureSeam", spec := "pictureSeam", unfollowed := true, recurses := true, apart := false }
def PictureSeamSaid : Prop := pictureSeamRow.holds Try.pinned (OpenSpec.ofChange pictureSeamSpec)

/-- ITS FALSE NEIGHBOUR: 'it returns false'. Refute it at one input. -/
def pictureSeamWrong : ChangeSpec := { name := "pictureSeam", fn := fun _ => fun
  | [d1, d2] => { results := [.lit (.bool false)], args := [d1, d2] }
  | _ => none }
def PictureSeamWrongFalsely : Prop := pictureSeamRow.holds Try.pinned (OpenSpec.ofChange pictureSeamWrong)

/- THE SECOND FORM. 'bulk': how many values and letters a reading holds, each counted each time it is reached (what is shared counts as often as it is met; a slice's spare places count too). A statement '..UptoSaid' is the law's where the arguments, and the package variables that the reading takes, are together of bulk at most 1048576: NARROWER than '..Said'. Prove '..Said' where nothing that the law and all that it calls make is longer than what came in: it says more and counts as full. Else prove '..UptoSaid'. A law counts once. -/
mutual
def uptoBulk {H : Type} : DataW H → Nat
  | .lit (.string bytes) => bytes.length + 1
  | .lit _ => 1
  | .nil => 1
  | .ptr d => uptoBulk d + 1
  | .slice elems spare => uptoBulkAll elems + uptoBulkAll spare + 1
  | .agg parts => uptoBulkAll parts + 1
  | .iface _ d => uptoBulk d + 1
  | .map entries => uptoBulkEntries entries + 1
  | .held _ => 1
def uptoBulkAll {H : Type} : List (DataW H) → Nat
  | [] => 0
  | d :: r => uptoBulk d + uptoBulkAll r
def uptoBulkEntries {H : Type} : List (Lit × DataW H) → Nat
  | [] => 0
  | x :: r => uptoBulkEntry x + uptoBulkEntries r
def uptoBulkEntry {H : Type} : Lit × DataW H → Nat
  | (.string bytes, d) => bytes.length + uptoBulk d + 1
  | (_, d) => uptoBulk d + 1
 end
def uptoSmall : (H : Type) → List (DataW H) → Bool := fun _ ds => decide (uptoBulkAll ds ≤ 1048576)
def OpenSpec.upto (s : _root_.Go.ChangeSpec) : _root_.Go.OpenSpec := { _root_.Go.OpenSpec.ofChange s with cond := some uptoSmall }

/-- 'filigreelaw29.PictureBytes', WHERE WHAT IT READS IS OF BULK AT MOST 1048576: true; the input reads as it did. -/
def pictureBytesUptoRow : OpenClaim := { program := "ytbhgcbgaadnfpaa", sum := "679949d85cda53d4ba2f78dccdf00fb45b54921774a20ae9096cddea636c0458", func := "filigree/filigreelaw29.PictureBytes", spec := "pictureBytes", unfollowed := true, recurses := true, apart := false, narrowed := true }
def PictureBytesUptoSaid : Prop := pictureBytesUptoRow.holds Try.pinned (OpenSpec.upto pictureBytesSpec)

/-- 'filigreelaw29.PictureBack', WHERE WHAT IT READS IS OF BULK AT MOST 1048576: true; the input reads as it did. -/
def pictureBackUptoRow : OpenClaim := { program := "ytbhgcbgaadnfpaa", sum := "679949d85cda53d4ba2f78dccdf00fb45b54921774a20ae9096cddea636c0458", func := "filigree/filigreelaw29.PictureBack", spec := "pictureBack", unfollowed := true, recurses := true, apart := false, narrowed := true }
def PictureBackUptoSaid : Prop := pictureBackUptoRow.holds Try.pinned (OpenSpec.upto pictureBackSpec)

/-- 'filigreelaw29.PictureTold', WHERE WHAT IT READS IS OF BULK AT MOST 1048576: true; the input reads as it did. -/
def pictureToldUptoRow : OpenClaim := { program := "ytbhgcbgaadnfpaa", sum := "679949d85cda53d4ba2f78dccdf00fb45b54921774a20ae9096cddea636c0458", func := "filigree/filigreelaw29.PictureTold", spec := "pictureTold", unfollowed := true, recurses := true, apart := false, narrowed := true }
def PictureToldUptoSaid : Prop := pictureToldUptoRow.holds Try.pinned (OpenSpec.upto pictureToldSpec)

/-- 'filigreelaw29.PictureOne', WHERE WHAT IT READS IS OF BULK AT MOST 1048576: true; the input reads as it did. -/
def pictureOneUptoRow : OpenClaim := { program := "ytbhgcbgaadnfpaa", sum := "679949d85cda53d4ba2f78dccdf00fb45b54921774a20ae9096cddea636c0458", func := "filigree/filigreelaw29.PictureOne", spec := "pictureOne", unfollowed := true, recurses := true, apart := false, narrowed := true }
def PictureOneUptoSaid : Prop := pictureOneUptoRow.holds Try.pinned (OpenSpec.upto pictureOneSpec)

/-- 'filigreelaw29.PicturePuts', WHERE WHAT IT READS IS OF BULK AT MOST 1048576: true; the input reads as it did. -/
def picturePutsUptoRow : OpenClaim := { program := "ytbhgcbgaadnfpaa", sum := "679949d85cda53d4ba2f78dccdf00fb45b54921774a20ae9096cddea636c0458", func := "filigree/filigreelaw29.PicturePuts", spec := "picturePuts", unfollowed := true, recurses := true, apart := false, narrowed := true }
def PicturePutsUptoSaid : Prop := picturePutsUptoRow.holds Try.pinned (OpenSpec.upto picturePutsSpec)

/-- 'filigreelaw29.PictureCuts', WHERE WHAT IT READS IS OF BULK AT MOST 1048576: true; the input reads as it did. -/
def pictureCutsUptoRow : OpenClaim := { program := "ytbhgcbgaadnfpaa", sum := "679949d85cda53d4ba2f78dccdf00fb45b54921774a20ae9096cddea636c0458", func := "filigree/filigreelaw29.PictureCuts", spec := "pictureCuts", unfollowed := true, recurses := true, apart := false, narrowed := true }
def PictureCutsUptoSaid : Prop := pictureCutsUptoRow.holds Try.pinned (OpenSpec.upto pictureCutsSpec)

/-- 'filigreelaw29.PictureGreys', WHERE WHAT IT READS IS OF BULK AT MOST 1048576: true; the input reads as it did. -/
def pictureGreysUptoRow : OpenClaim := { program := "ytbhgcbgaadnfpaa", sum := "679949d85cda53d4ba2f78dccdf00fb45b54921774a20ae9096cddea636c0458", func := "filigree/filigreelaw29.PictureGreys", spec := "pictureGreys", unfollowed := true, recurses := true, apart := false, narrowed := true }
def PictureGreysUptoSaid : Prop := pictureGreysUptoRow.holds Try.pinned (OpenSpec.upto pictureGreysSpec)

/-- 'filigreelaw29.PictureSheets', WHERE WHAT IT READS IS OF BULK AT MOST 1048576: true; the input reads as it did. -/
def pictureSheetsUptoRow : OpenClaim := { program := "ytbhgcbgaadnfpaa", sum := "679949d85cda53d4ba2f78dccdf00fb45b54921774a20ae9096cddea636c0458", func := "filigree/filigreelaw29.PictureSheets", spec := "pictureSheets", unfollowed := true, recurses := true, apart := false, narrowed := true }
def PictureSheetsUptoSaid : Prop := pictureSheetsUptoRow.holds Try.pinned (OpenSpec.upto pictureSheetsSpec)

/-- 'filigreelaw29.PictureSeam', WHERE WHAT IT READS IS OF BULK AT MOST 1048576: true; the input reads as it did. -/
def pictureSeamUptoRow : OpenClaim := { program := "ytbhgcbgaadnfpaa", sum := "679949d85cda53d4ba2f78dccdf00fb45b54921774a20ae9096cddea636c0458", func := "filigree/filigreelaw29.PictureSeam", spec := "pictureSeam", unfollowed := true, recurses := true, apart := false, narrowed := true }
def PictureSeamUptoSaid : Prop := pictureSeamUptoRow.holds Try.pinned (OpenSpec.upto pictureSeamSpec)

end Rows
end Go.Proofs.Ytbhgcbgaadnfpaa
