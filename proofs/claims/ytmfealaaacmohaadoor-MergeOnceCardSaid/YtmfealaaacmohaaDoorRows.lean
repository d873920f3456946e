/-
  NARROWER THAN 'FOR EVERY INPUT', by the rows' own cells (each row's printed sentence says how): PickCopies: laid · RadixPasses: laid · PickTakes: laid · RadixKeys: laid · RadixGrades: loops, laid · MergeSorts: laid · PickAlong: loops, laid · MergeGrades: loops, laid · MergeOnce: loops, laid.
  DERIVED. THE GIVEN ROWS OF THIS SEAT. 9 by the template 'for every input the law returns true; each argument reads behind the call as it read before'; 0 by the template 'total and deterministic' (their statements: YtmfealaaacmohaaDoorTotals.lean).
  GIVEN WITH THE SEED: the statements are not yours to turn. If you find one false, say at which input.
  Laid BY PROGRAM, IN A SANDBOX (cutbox-rows.mjs): the forced cells as the released guide's own fill.sh prints them over the translation 3cbf407cdad52e76… (all of the seat's roots in one cut). By AI agents, Wed Nov 11 2026. No macro, syntax, notation, axiom, sorry.
-/
import Derived.Test.YtmfealaaacmohaaDoorChecked
import GoSem.Claim
import GoSem.ClaimJoined
import GoSem.ClaimMapViews
import Derived.JoinedTies
import Derived.KernelRfl
namespace Go.Proofs.YtmfealaaacmohaaDoor
/- THE CELL 'sum', in the pinned program and in every row, IS THE sha256 OF THE DUMP (.gsa) THAT YtmfealaaacmohaaDoorProg.lean LOADS. Nothing in Lean hashes anything: it is a label: what it is worth is what the hold of that sum in a sandbox is worth. -/
noncomputable def Tryd.pinned : Pinned := { name := "ytmfealaaacmohaadoor", sum := "3cbf407cdad52e764d603373fb018240428e1be9f17815b05fdf42f5375db8bc", checked := Tryd.checked }
namespace Rows
def none {H : Type} : Left H := { results := [], args := [] }

/- WHAT THE LISTED PACKAGE-LEVEL VARIABLES READ AS WHEN THE CALL BEGINS. Each datum BY PROGRAM (the guide's laid-datum.mjs) off the statement by which the dump's own 'gosem.cut.vars' lays the variable. In a bare row this is a premise. The card (YtmfealaaacmohaaDoorCards.lean) ties it to the program's text. -/
def laid_math_bits_deBruijn64tab {H : Type} : DataW H := .agg [.lit (.int .u8 0), .lit (.int .u8 1), .lit (.int .u8 56), .lit (.int .u8 2), .lit (.int .u8 57), .lit (.int .u8 49), .lit (.int .u8 28), .lit (.int .u8 3), .lit (.int .u8 61), .lit (.int .u8 58), .lit (.int .u8 42), .lit (.int .u8 50), .lit (.int .u8 38), .lit (.int .u8 29), .lit (.int .u8 17), .lit (.int .u8 4), .lit (.int .u8 62), .lit (.int .u8 47), .lit (.int .u8 59), .lit (.int .u8 36), .lit (.int .u8 45), .lit (.int .u8 43), .lit (.int .u8 51), .lit (.int .u8 22), .lit (.int .u8 53), .lit (.int .u8 39), .lit (.int .u8 33), .lit (.int .u8 30), .lit (.int .u8 24), .lit (.int .u8 18), .lit (.int .u8 12), .lit (.int .u8 5), .lit (.int .u8 63), .lit (.int .u8 55), .lit (.int .u8 48), .lit (.int .u8 27), .lit (.int .u8 60), .lit (.int .u8 41), .lit (.int .u8 37), .lit (.int .u8 16), .lit (.int .u8 46), .lit (.int .u8 35), .lit (.int .u8 44), .lit (.int .u8 21), .lit (.int .u8 52), .lit (.int .u8 32), .lit (.int .u8 23), .lit (.int .u8 11), .lit (.int .u8 54), .lit (.int .u8 26), .lit (.int .u8 40), .lit (.int .u8 15), .lit (.int .u8 34), .lit (.int .u8 20), .lit (.int .u8 31), .lit (.int .u8 10), .lit (.int .u8 25), .lit (.int .u8 14), .lit (.int .u8 19), .lit (.int .u8 9), .lit (.int .u8 13), .lit (.int .u8 8), .lit (.int .u8 7), .lit (.int .u8 6)]

/-- 'rebuslaw15.PickCopies': WHATEVER THE INPUT: true; the input reads as it did. -/
def pickCopiesSpec : ChangeSpec := { name := "pickCopies", fn := fun _ => fun
  | [d1, d2, d3] => { results := [.lit (.bool true)], args := [d1, d2, d3] }
  | _ => none }
def pickCopiesRow : OpenClaim := { program := "ytmfealaaacmohaadoor", sum := "3cbf407cdad52e764d603373fb018240428e1be9f17815b05fdf42f5375db8bc", func := "rebus/rebuslaw15.PickCopies", spec := "pickCopies", named := ["math/bits.deBruijn64tab"], apart := false, laid := [("math/bits.deBruijn64tab", laid_math_bits_deBruijn64tab)] }
def PickCopiesSaid : Prop := pickCopiesRow.holds Tryd.pinned (OpenSpec.ofChange pickCopiesSpec)

/-- ITS FALSE NEIGHBOUR: 'it returns false'. Refute it at one input. -/
def pickCopiesWrong : ChangeSpec := { name := "pickCopies", fn := fun _ => fun
  | [d1, d2, d3] => { results := [.lit (.bool false)], args := [d1, d2, d3] }
  | _ => none }
def PickCopiesWrongFalsely : Prop := pickCopiesRow.holds Tryd.pinned (OpenSpec.ofChange pickCopiesWrong)

/-- 'rebuslaw17.RadixPasses': WHATEVER THE INPUT: true; the input reads as it did. -/
def radixPassesSpec : ChangeSpec := { name := "radixPasses", fn := fun _ => fun
  | [d1, d2, d3, d4, d5] => { results := [.lit (.bool true)], args := [d1, d2, d3, d4, d5] }
  | _ => none }
def radixPassesRow : OpenClaim := { program := "ytmfealaaacmohaadoor", sum := "3cbf407cdad52e764d603373fb018240428e1be9f17815b05fdf42f5375db8bc", func := "rebus/rebuslaw17.RadixPasses", spec := "radixPasses", unfollowed := true, recurses := true, named := ["math/bits.deBruijn64tab"], apart := false, laid := [("math/bits.deBruijn64tab", laid_math_bits_deBruijn64tab)] }
def RadixPassesSaid : Prop := radixPassesRow.holds Tryd.pinned (OpenSpec.ofChange radixPassesSpec)

/-- ITS FALSE NEIGHBOUR: 'it returns false'. Refute it at one input. -/
def radixPassesWrong : ChangeSpec := { name := "radixPasses", fn := fun _ => fun
  | [d1, d2, d3, d4, d5] => { results := [.lit (.bool false)], args := [d1, d2, d3, d4, d5] }
  | _ => none }
def RadixPassesWrongFalsely : Prop := radixPassesRow.holds Tryd.pinned (OpenSpec.ofChange radixPassesWrong)

/-- 'rebuslaw15.PickTakes': WHATEVER THE INPUT: true; the input reads as it did. -/
def pickTakesSpec : ChangeSpec := { name := "pickTakes", fn := fun _ => fun
  | [d1, d2, d3, d4] => { results := [.lit (.bool true)], args := [d1, d2, d3, d4] }
  | _ => none }
def pickTakesRow : OpenClaim := { program := "ytmfealaaacmohaadoor", sum := "3cbf407cdad52e764d603373fb018240428e1be9f17815b05fdf42f5375db8bc", func := "rebus/rebuslaw15.PickTakes", spec := "pickTakes", named := ["math/bits.deBruijn64tab"], apart := false, laid := [("math/bits.deBruijn64tab", laid_math_bits_deBruijn64tab)] }
def PickTakesSaid : Prop := pickTakesRow.holds Tryd.pinned (OpenSpec.ofChange pickTakesSpec)

/-- ITS FALSE NEIGHBOUR: 'it returns false'. Refute it at one input. -/
def pickTakesWrong : ChangeSpec := { name := "pickTakes", fn := fun _ => fun
  | [d1, d2, d3, d4] => { results := [.lit (.bool false)], args := [d1, d2, d3, d4] }
  | _ => none }
def PickTakesWrongFalsely : Prop := pickTakesRow.holds Tryd.pinned (OpenSpec.ofChange pickTakesWrong)

/-- 'rebuslaw17.RadixKeys': WHATEVER THE INPUT: true; the input reads as it did. -/
def radixKeysSpec : ChangeSpec := { name := "radixKeys", fn := fun _ => fun
  | [d1, d2] => { results := [.lit (.bool true)], args := [d1, d2] }
  | _ => none }
def radixKeysRow : OpenClaim := { program := "ytmfealaaacmohaadoor", sum := "3cbf407cdad52e764d603373fb018240428e1be9f17815b05fdf42f5375db8bc", func := "rebus/rebuslaw17.RadixKeys", spec := "radixKeys", unfollowed := true, recurses := true, named := ["math/bits.deBruijn64tab"], apart := false, laid := [("math/bits.deBruijn64tab", laid_math_bits_deBruijn64tab)] }
def RadixKeysSaid : Prop := radixKeysRow.holds Tryd.pinned (OpenSpec.ofChange radixKeysSpec)

/-- ITS FALSE NEIGHBOUR: 'it returns false'. Refute it at one input. -/
def radixKeysWrong : ChangeSpec := { name := "radixKeys", fn := fun _ => fun
  | [d1, d2] => { results := [.lit (.bool false)], args := [d1, d2] }
  | _ => none }
def RadixKeysWrongFalsely : Prop := radixKeysRow.holds Tryd.pinned (OpenSpec.ofChange radixKeysWrong)

/-- 'rebuslaw17.RadixGrades': WHATEVER THE INPUT: true; the input reads as it did. -/
def radixGradesSpec : ChangeSpec := { name := "radixGrades", fn := fun _ => fun
  | [d1, d2] => { results := [.lit (.bool true)], args := [d1, d2] }
  | _ => none }
def radixGradesRow : OpenClaim := { program := "ytmfealaaacmohaadoor", sum := "3cbf407cdad52e764d603373fb018240428e1be9f17815b05fdf42f5375db8bc", func := "rebus/rebuslaw17.RadixGrades", spec := "radixGrades", unfollowed := true, recurses := true, named := ["math/bits.deBruijn64tab"], loops := true, apart := false, laid := [("math/bits.deBruijn64tab", laid_math_bits_deBruijn64tab)] }
def RadixGradesSaid : Prop := radixGradesRow.holds Tryd.pinned (OpenSpec.ofChange radixGradesSpec)

/-- ITS FALSE NEIGHBOUR: 'it returns false'. Refute it at one input. -/
def radixGradesWrong : ChangeSpec := { name := "radixGrades", fn := fun _ => fun
  | [d1, d2] => { results := [.lit (.bool false)], args := [d1, d2] }
  | _ => none }
def RadixGradesWrongFalsely : Prop := radixGradesRow.holds Tryd.pinned (OpenSpec.ofChange radixGradesWrong)

/-- 'rebuslaw18.MergeSorts': WHATEVER THE INPUT: true; the input reads as it did. -/
def mergeSortsSpec : ChangeSpec := { name := "mergeSorts", fn := fun _ => fun
  | [d] => { results := [.lit (.bool true)], args := [d] }
  | _ => none }
def mergeSortsRow : OpenClaim := { program := "ytmfealaaacmohaadoor", sum := "3cbf407cdad52e764d603373fb018240428e1be9f17815b05fdf42f5375db8bc", func := "rebus/rebuslaw18.MergeSorts", spec := "mergeSorts", unfollowed := true, recurses := true, named := ["math/bits.deBruijn64tab"], apart := false, laid := [("math/bits.deBruijn64tab", laid_math_bits_deBruijn64tab)] }
def MergeSortsSaid : Prop := mergeSortsRow.holds Tryd.pinned (OpenSpec.ofChange mergeSortsSpec)

/-- ITS FALSE NEIGHBOUR: 'it returns false'. Refute it at one input. -/
def mergeSortsWrong : ChangeSpec := { name := "mergeSorts", fn := fun _ => fun
  | [d] => { results := [.lit (.bool false)], args := [d] }
  | _ => none }
def MergeSortsWrongFalsely : Prop := mergeSortsRow.holds Tryd.pinned (OpenSpec.ofChange mergeSortsWrong)

/-- 'rebuslaw15.PickAlong': WHATEVER THE INPUT: true; the input reads as it did. -/
def pickAlongSpec : ChangeSpec := { name := "pickAlong", fn := fun _ => fun
  | [d1, d2, d3, d4] => { results := [.lit (.bool true)], args := [d1, d2, d3, d4] }
  | _ => none }
def pickAlongRow : OpenClaim := { program := "ytmfealaaacmohaadoor", sum := "3cbf407cdad52e764d603373fb018240428e1be9f17815b05fdf42f5375db8bc", func := "rebus/rebuslaw15.PickAlong", spec := "pickAlong", recurses := true, named := ["math/bits.deBruijn64tab"], loops := true, apart := false, laid := [("math/bits.deBruijn64tab", laid_math_bits_deBruijn64tab)] }
def PickAlongSaid : Prop := pickAlongRow.holds Tryd.pinned (OpenSpec.ofChange pickAlongSpec)

/-- ITS FALSE NEIGHBOUR: 'it returns false'. Refute it at one input. -/
def pickAlongWrong : ChangeSpec := { name := "pickAlong", fn := fun _ => fun
  | [d1, d2, d3, d4] => { results := [.lit (.bool false)], args := [d1, d2, d3, d4] }
  | _ => none }
def PickAlongWrongFalsely : Prop := pickAlongRow.holds Tryd.pinned (OpenSpec.ofChange pickAlongWrong)

/-- 'rebuslaw18.MergeGrades': WHATEVER THE INPUT: true; the input reads as it did. -/
def mergeGradesSpec : ChangeSpec := { name := "mergeGrades", fn := fun _ => fun
  | [d1, d2, d3] => { results := [.lit (.bool true)], args := [d1, d2, d3] }
  | _ => none }
def mergeGradesRow : OpenClaim := { program := "ytmfealaaacmohaadoor", sum := "3cbf407cdad52e764d603373fb018240428e1be9f17815b05fdf42f5375db8bc", func := "rebus/rebuslaw18.MergeGrades", spec := "mergeGrades", unfollowed := true, recurses := true, named := ["math/bits.deBruijn64tab"], loops := true, apart := false, laid := [("math/bits.deBruijn64tab", laid_math_bits_deBruijn64tab)] }
def MergeGradesSaid : Prop := mergeGradesRow.holds Tryd.pinned (OpenSpec.ofChange mergeGradesSpec)

/-- ITS FALSE NEIGHBOUR: 'it returns false'. Refute it at one input. -/
def mergeGradesWrong : ChangeSpec := { name := "mergeGrades", fn := fun _ => fun
  | [d1, d2, d3] => { results := [.lit (.bool false)], args := [d1, d2, d3] }
  | _ => none }
def MergeGradesWrongFalsely : Prop := mergeGradesRow.holds Tryd.pinned (OpenSpec.ofChange mergeGradesWrong)

/-- 'rebuslaw18.MergeOnce': WHATEVER THE INPUT: true; the input reads as it did. -/
def mergeOnceSpec : ChangeSpec := { name := "mergeOnce", fn := fun _ => fun
  | [d] => { results := [.lit (.bool true)], args := [d] }
  | _ => none }
def mergeOnceRow : OpenClaim := { program := "ytmfealaaacmohaadoor", sum := "3cbf407cdad52e764d603373fb018240428e1be9f17815b05fdf42f5375db8bc", func := "rebus/rebuslaw18.MergeOnce", spec := "mergeOnce", unfollowed := true, recurses := true, named := ["math/bits.deBruijn64tab"], loops := true, apart := false, laid := [("math/bits.deBruijn64tab", laid_math_bits_deBruijn64tab)] }
def MergeOnceSaid : Prop := mergeOnceRow.holds Tryd.pinned (OpenSpec.ofChange mergeOnceSpec)

/-- ITS FALSE NEIGHBOUR: 'it returns false'. Refute it at one input. -/
def mergeOnceWrong : ChangeSpec := { name := "mergeOnce", fn := fun _ => fun
  | [d] => { results := [.lit (.bool false)], args := [d] }
  | _ => none }
def MergeOnceWrongFalsely : Prop := mergeOnceRow.holds Tryd.pinned (OpenSpec.ofChange mergeOnceWrong)

/- THE SECOND FORM. 'bulk': how many values and letters a reading holds, each counted each time it is reached (what is shared counts as often as it is met; a slice's spare places count too). A statement '..UptoSaid' is the law's where the arguments, and the package variables that the reading takes, are together of bulk at most 1048576: NARROWER than '..Said'. Prove '..Said' where nothing that the law and all that it calls make is longer than what came in: it says more and counts as full. Else prove '..UptoSaid'. A law counts once. -/
mutual
def uptoBulk {H : Type} : DataW H → Nat
  | .lit (.string bytes) => bytes.length + 1
  | .lit _ => 1
  | .nil => 1
  | .ptr d => uptoBulk d + 1
  | .slice elems spare => uptoBulkAll elems + uptoBulkAll spare + 1
  | .agg parts => uptoBulkAll parts + 1
  | .iface _ d => uptoBulk d + 1
  | .map entries => uptoBulkEntries entries + 1
  | .held _ => 1
def uptoBulkAll {H : Type} : List (DataW H) → Nat
  | [] => 0
  | d :: r => uptoBulk d + uptoBulkAll r
def uptoBulkEntries {H : Type} : List (Lit × DataW H) → Nat
  | [] => 0
  | x :: r => uptoBulkEntry x + uptoBulkEntries r
def uptoBulkEntry {H : Type} : Lit × DataW H → Nat
  | (.string bytes, d) => bytes.length + uptoBulk d + 1
  | (_, d) => uptoBulk d + 1
 end
def uptoSmall : (H : Type) → List (DataW H) → Bool := fun _ ds => decide (uptoBulkAll ds ≤ 1048576)
def OpenSpec.upto (s : _root_.Go.ChangeSpec) : _root_.Go.OpenSpec := { _root_.Go.OpenSpec.ofChange s with cond := some uptoSmall }

/-- 'rebuslaw15.PickCopies', WHERE WHAT IT READS IS OF BULK AT MOST 1048576: true; the input reads as it did. -/
def pickCopiesUptoRow : OpenClaim := { program := "ytmfealaaacmohaadoor", sum := "3cbf407cdad52e764d603373fb018240428e1be9f17815b05fdf42f5375db8bc", func := "rebus/rebuslaw15.PickCopies", spec := "pickCopies", named := ["math/bits.deBruijn64tab"], apart := false, laid := [("math/bits.deBruijn64tab", laid_math_bits_deBruijn64tab)], narrowed := true }
def PickCopiesUptoSaid : Prop := pickCopiesUptoRow.holds Tryd.pinned (OpenSpec.upto pickCopiesSpec)

/-- 'rebuslaw17.RadixPasses', WHERE WHAT IT READS IS OF BULK AT MOST 1048576: true; the input reads as it did. -/
def radixPassesUptoRow : OpenClaim := { program := "ytmfealaaacmohaadoor", sum := "3cbf407cdad52e764d603373fb018240428e1be9f17815b05fdf42f5375db8bc", func := "rebus/rebuslaw17.RadixPasses", spec := "radixPasses", unfollowed := true, recurses := true, named := ["math/bits.deBruijn64tab"], apart := false, laid := [("math/bits.deBruijn64tab", laid_math_bits_deBruijn64tab)], narrowed := true }
def RadixPassesUptoSaid : Prop := radixPassesUptoRow.holds Tryd.pinned (OpenSpec.upto radixPassesSpec)

/-- 'rebuslaw15.PickTakes', WHERE WHAT IT READS IS OF BULK AT MOST 1048576: true; the input reads as it did. -/
def pickTakesUptoRow : OpenClaim := { program := "ytmfealaaacmohaadoor", sum := "3cbf407cdad52e764d603373fb018240428e1be9f17815b05fdf42f5375db8bc", func := "rebus/rebuslaw15.PickTakes", spec := "pickTakes", named := ["math/bits.deBruijn64tab"], apart := false, laid := [("math/bits.deBruijn64tab", laid_math_bits_deBruijn64tab)], narrowed := true }
def PickTakesUptoSaid : Prop := pickTakesUptoRow.holds Tryd.pinned (OpenSpec.upto pickTakesSpec)

/-- 'rebuslaw17.RadixKeys', WHERE WHAT IT READS IS OF BULK AT MOST 1048576: true; the input reads as it did. -/
def radixKeysUptoRow : OpenClaim := { program := "ytmfealaaacmohaadoor", sum := "3cbf407cdad52e764d603373fb018240428e1be9f17815b05fdf42f5375db8bc", func := "rebus/rebuslaw17.RadixKeys", spec := "radixKeys", unfollowed := true, recurses := true, named := ["math/bits.deBruijn64tab"], apart := false, laid := [("math/bits.deBruijn64tab", laid_math_bits_deBruijn64tab)], narrowed := true }
def RadixKeysUptoSaid : Prop := radixKeysUptoRow.holds Tryd.pinned (OpenSpec.upto radixKeysSpec)

/-- 'rebuslaw17.RadixGrades', WHERE WHAT IT READS IS OF BULK AT MOST 1048576: true; the input reads as it did. -/
def radixGradesUptoRow : OpenClaim := { program := "ytmfealaaacmohaadoor", sum := "3cbf407cdad52e764d603373fb018240428e1be9f17815b05fdf42f5375db8bc", func := "rebus/rebuslaw17.RadixGrades", spec := "radixGrades", unfollowed := true, recurses := true, named := ["math/bits.deBruijn64tab"], loops := true, apart := false, laid := [("math/bits.deBruijn64tab", laid_math_bits_deBruijn64tab)], narrowed := true }
def RadixGradesUptoSaid : Prop := radixGradesUptoRow.holds Tryd.pinned (OpenSpec.upto radixGradesSpec)

/-- 'rebuslaw18.MergeSorts', WHERE WHAT IT READS IS OF BULK AT MOST 1048576: true; the input reads as it did. -/
def mergeSortsUptoRow : OpenClaim := { program := "ytmfealaaacmohaadoor", sum := "3cbf407cdad52e764d603373fb018240428e1be9f17815b05fdf42f5375db8bc", func := "rebus/rebuslaw18.MergeSorts", spec := "mergeSorts", unfollowed := true, recurses := true, named := ["math/bits.deBruijn64tab"], apart := false, laid := [("math/bits.deBruijn64tab", laid_math_bits_deBruijn64tab)], narrowed := true }
def MergeSortsUptoSaid : Prop := mergeSortsUptoRow.holds Tryd.pinned (OpenSpec.upto mergeSortsSpec)

/-- 'rebuslaw15.PickAlong', WHERE WHAT IT READS IS OF BULK AT MOST 1048576: true; the input reads as it did. -/
def pickAlongUptoRow : OpenClaim := { program := "ytmfealaaacmohaadoor", sum := "3cbf407cdad52e764d603373fb018240428e1be9f17815b05fdf42f5375db8bc", func := "rebus/rebuslaw15.PickAlong", spec := "pickAlong", recurses := true, named := ["math/bits.deBruijn64tab"], loops := true, apart := false, laid := [("math/bits.deBruijn64tab", laid_math_bits_deBruijn64tab)], narrowed := true }
def PickAlongUptoSaid : Prop := pickAlongUptoRow.holds Tryd.pinned (OpenSpec.upto pickAlongSpec)

/-- 'rebuslaw18.MergeGrades', WHERE WHAT IT READS IS OF BULK AT MOST 1048576: true; the input reads as it did. -/
def mergeGradesUptoRow : OpenClaim := { program := "ytmfealaaacmohaadoor", sum := "3cbf407cdad52e764d603373fb018240428e1be9f17815b05fdf42f5375db8bc", func := "rebus/rebuslaw18.MergeGrades", spec := "mergeGrades", unfollowed := true, recurses := true, named := ["math/bits.deBruijn64tab"], loops := true, apart := false, laid := [("math/bits.deBruijn64tab", laid_math_bits_deBruijn64tab)], narrowed := true }
def MergeGradesUptoSaid : Prop := mergeGradesUptoRow.holds Tryd.pinned (OpenSpec.upto mergeGradesSpec)

/-- 'rebuslaw18.MergeOnce', WHERE WHAT IT READS IS OF BULK AT MOST 1048576: true; the input reads as it did. -/
def mergeOnceUptoRow : OpenClaim := { program := "ytmfealaaacmohaadoor", sum := "3cbf407cdad52e764d603373fb018240428e1be9f17815b05fdf42f5375db8bc", func := "rebus/rebuslaw18.MergeOnce", spec := "mergeOnce", unfollowed := true, recurses := true, named := ["math/bits.deBruijn64tab"], loops := true, apart := false, laid := [("math/bits.deBruijn64tab", laid_math_bits_deBruijn64tab)], narrowed := true }
def MergeOnceUptoSaid : Prop := mergeOnceUptoRow.holds Tryd.pinned (OpenSpec.upto mergeOnceSpec)

end Rows
end Go.Proofs.YtmfealaaacmohaaDoor
