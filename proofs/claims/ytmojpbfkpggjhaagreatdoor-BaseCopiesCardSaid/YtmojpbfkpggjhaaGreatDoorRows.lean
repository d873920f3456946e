/-
  NARROWER THAN 'FOR EVERY INPUT', by the rows' own cells (each row's printed sentence says how): BaseCopies: loops, laid · BaseCounts: loops, laid · BaseFinds: loops, laid · BaseSets: loops, laid · BaseGrades: loops, laid.
  DERIVED. THE GIVEN ROWS OF THIS SEAT. 5 by the template 'for every input the law returns true; each argument reads behind the call as it read before'; 0 by the template 'total and deterministic' (their statements: YtmojpbfkpggjhaaGreatDoorTotals.lean).
  GIVEN WITH THE SEED: the statements are not yours to turn. If you find one false, say at which input.
  Laid BY PROGRAM, IN A SANDBOX (cutbox-rows.mjs): the forced cells as the released guide's own fill.sh prints them over the translation 5e9cdc3f51656791… (all of the seat's roots in one cut). By AI agents, Wed Nov 11 2026. No macro, syntax, notation, axiom, sorry.
-/
import Derived.Test.YtmojpbfkpggjhaaGreatDoorChecked
import GoSem.Claim
import GoSem.ClaimJoined
import GoSem.ClaimMapViews
import Derived.JoinedTies
import Derived.KernelRfl
namespace Go.Proofs.YtmojpbfkpggjhaaGreatDoor
/- THE CELL 'sum', in the pinned program and in every row, IS THE sha256 OF THE DUMP (.gsa) THAT YtmojpbfkpggjhaaGreatDoorProg.lean LOADS. Nothing in Lean hashes anything: it is a label: what it is worth is what the hold of that sum in a sandbox is worth. -/
noncomputable def Tryz.pinned : Pinned := { name := "ytmojpbfkpggjhaagreatdoor", sum := "5e9cdc3f51656791cef27ee941931568eca7e5e7b1b16001659d4f741c99351a", checked := Tryz.checked }
namespace Rows
def none {H : Type} : Left H := { results := [], args := [] }

/- WHAT THE LISTED PACKAGE-LEVEL VARIABLES READ AS WHEN THE CALL BEGINS. Each datum BY PROGRAM (the guide's laid-datum.mjs) off the statement by which the dump's own 'gosem.cut.vars' lays the variable. In a bare row this is a premise. The card (YtmojpbfkpggjhaaGreatDoorCards.lean) ties it to the program's text. -/
def laid_math_bits_deBruijn64tab {H : Type} : DataW H := .agg [.lit (.int .u8 0), .lit (.int .u8 1), .lit (.int .u8 56), .lit (.int .u8 2), .lit (.int .u8 57), .lit (.int .u8 49), .lit (.int .u8 28), .lit (.int .u8 3), .lit (.int .u8 61), .lit (.int .u8 58), .lit (.int .u8 42), .lit (.int .u8 50), .lit (.int .u8 38), .lit (.int .u8 29), .lit (.int .u8 17), .lit (.int .u8 4), .lit (.int .u8 62), .lit (.int .u8 47), .lit (.int .u8 59), .lit (.int .u8 36), .lit (.int .u8 45), .lit (.int .u8 43), .lit (.int .u8 51), .lit (.int .u8 22), .lit (.int .u8 53), .lit (.int .u8 39), .lit (.int .u8 33), .lit (.int .u8 30), .lit (.int .u8 24), .lit (.int .u8 18), .lit (.int .u8 12), .lit (.int .u8 5), .lit (.int .u8 63), .lit (.int .u8 55), .lit (.int .u8 48), .lit (.int .u8 27), .lit (.int .u8 60), .lit (.int .u8 41), .lit (.int .u8 37), .lit (.int .u8 16), .lit (.int .u8 46), .lit (.int .u8 35), .lit (.int .u8 44), .lit (.int .u8 21), .lit (.int .u8 52), .lit (.int .u8 32), .lit (.int .u8 23), .lit (.int .u8 11), .lit (.int .u8 54), .lit (.int .u8 26), .lit (.int .u8 40), .lit (.int .u8 15), .lit (.int .u8 34), .lit (.int .u8 20), .lit (.int .u8 31), .lit (.int .u8 10), .lit (.int .u8 25), .lit (.int .u8 14), .lit (.int .u8 19), .lit (.int .u8 9), .lit (.int .u8 13), .lit (.int .u8 8), .lit (.int .u8 7), .lit (.int .u8 6)]

/-- 'rebuslaw27.BaseCopies': WHATEVER THE INPUT: true; the input reads as it did. -/
def baseCopiesSpec : ChangeSpec := { name := "baseCopies", fn := fun _ => fun
  | [d1, d2, d3, d4, d5] => { results := [.lit (.bool true)], args := [d1, d2, d3, d4, d5] }
  | _ => none }
def baseCopiesRow : OpenClaim := { program := "ytmojpbfkpggjhaagreatdoor", sum := "5e9cdc3f51656791cef27ee941931568eca7e5e7b1b16001659d4f741c99351a", func := "rebus/rebuslaw27.BaseCopies", spec := "baseCopies", unfollowed := true, recurses := true, named := ["math/bits.deBruijn64tab"], loops := true, apart := false, laid := [("math/bits.deBruijn64tab", laid_math_bits_deBruijn64tab)] }
def BaseCopiesSaid : Prop := baseCopiesRow.holds Tryz.pinned (OpenSpec.ofChange baseCopiesSpec)

/-- ITS FALSE NEIGHBOUR: 'it returns false'. Refute it at one input. -/
def baseCopiesWrong : ChangeSpec := { name := "baseCopies", fn := fun _ => fun
  | [d1, d2, d3, d4, d5] => { results := [.lit (.bool false)], args := [d1, d2, d3, d4, d5] }
  | _ => none }
def BaseCopiesWrongFalsely : Prop := baseCopiesRow.holds Tryz.pinned (OpenSpec.ofChange baseCopiesWrong)

/-- 'rebuslaw27.BaseCounts': WHATEVER THE INPUT: true; the input reads as it did. -/
def baseCountsSpec : ChangeSpec := { name := "baseCounts", fn := fun _ => fun
  | [d1, d2, d3, d4] => { results := [.lit (.bool true)], args := [d1, d2, d3, d4] }
  | _ => none }
def baseCountsRow : OpenClaim := { program := "ytmojpbfkpggjhaagreatdoor", sum := "5e9cdc3f51656791cef27ee941931568eca7e5e7b1b16001659d4f741c99351a", func := "rebus/rebuslaw27.BaseCounts", spec := "baseCounts", unfollowed := true, recurses := true, named := ["math/bits.deBruijn64tab"], loops := true, apart := false, laid := [("math/bits.deBruijn64tab", laid_math_bits_deBruijn64tab)] }
def BaseCountsSaid : Prop := baseCountsRow.holds Tryz.pinned (OpenSpec.ofChange baseCountsSpec)

/-- ITS FALSE NEIGHBOUR: 'it returns false'. Refute it at one input. -/
def baseCountsWrong : ChangeSpec := { name := "baseCounts", fn := fun _ => fun
  | [d1, d2, d3, d4] => { results := [.lit (.bool false)], args := [d1, d2, d3, d4] }
  | _ => none }
def BaseCountsWrongFalsely : Prop := baseCountsRow.holds Tryz.pinned (OpenSpec.ofChange baseCountsWrong)

/-- 'rebuslaw27.BaseFinds': WHATEVER THE INPUT: true; the input reads as it did. -/
def baseFindsSpec : ChangeSpec := { name := "baseFinds", fn := fun _ => fun
  | [d1, d2, d3] => { results := [.lit (.bool true)], args := [d1, d2, d3] }
  | _ => none }
def baseFindsRow : OpenClaim := { program := "ytmojpbfkpggjhaagreatdoor", sum := "5e9cdc3f51656791cef27ee941931568eca7e5e7b1b16001659d4f741c99351a", func := "rebus/rebuslaw27.BaseFinds", spec := "baseFinds", inPlace := ["math.Float64bits"], unfollowed := true, recurses := true, named := ["math/bits.deBruijn64tab"], loops := true, apart := false, laid := [("math/bits.deBruijn64tab", laid_math_bits_deBruijn64tab)] }
def BaseFindsSaid : Prop := baseFindsRow.holds Tryz.pinned (OpenSpec.ofChange baseFindsSpec)

/-- ITS FALSE NEIGHBOUR: 'it returns false'. Refute it at one input. -/
def baseFindsWrong : ChangeSpec := { name := "baseFinds", fn := fun _ => fun
  | [d1, d2, d3] => { results := [.lit (.bool false)], args := [d1, d2, d3] }
  | _ => none }
def BaseFindsWrongFalsely : Prop := baseFindsRow.holds Tryz.pinned (OpenSpec.ofChange baseFindsWrong)

/-- 'rebuslaw27.BaseSets': WHATEVER THE INPUT: true; the input reads as it did. -/
def baseSetsSpec : ChangeSpec := { name := "baseSets", fn := fun _ => fun
  | [d1, d2, d3, d4] => { results := [.lit (.bool true)], args := [d1, d2, d3, d4] }
  | _ => none }
def baseSetsRow : OpenClaim := { program := "ytmojpbfkpggjhaagreatdoor", sum := "5e9cdc3f51656791cef27ee941931568eca7e5e7b1b16001659d4f741c99351a", func := "rebus/rebuslaw27.BaseSets", spec := "baseSets", inPlace := ["math.Float64bits"], unfollowed := true, recurses := true, named := ["math/bits.deBruijn64tab"], loops := true, apart := false, laid := [("math/bits.deBruijn64tab", laid_math_bits_deBruijn64tab)] }
def BaseSetsSaid : Prop := baseSetsRow.holds Tryz.pinned (OpenSpec.ofChange baseSetsSpec)

/-- ITS FALSE NEIGHBOUR: 'it returns false'. Refute it at one input. -/
def baseSetsWrong : ChangeSpec := { name := "baseSets", fn := fun _ => fun
  | [d1, d2, d3, d4] => { results := [.lit (.bool false)], args := [d1, d2, d3, d4] }
  | _ => none }
def BaseSetsWrongFalsely : Prop := baseSetsRow.holds Tryz.pinned (OpenSpec.ofChange baseSetsWrong)

/-- 'rebuslaw27.BaseGrades': WHATEVER THE INPUT: true; the input reads as it did. -/
def baseGradesSpec : ChangeSpec := { name := "baseGrades", fn := fun _ => fun
  | [d1, d2, d3] => { results := [.lit (.bool true)], args := [d1, d2, d3] }
  | _ => none }
def baseGradesRow : OpenClaim := { program := "ytmojpbfkpggjhaagreatdoor", sum := "5e9cdc3f51656791cef27ee941931568eca7e5e7b1b16001659d4f741c99351a", func := "rebus/rebuslaw27.BaseGrades", spec := "baseGrades", unfollowed := true, recurses := true, named := ["math/bits.deBruijn64tab"], loops := true, apart := false, laid := [("math/bits.deBruijn64tab", laid_math_bits_deBruijn64tab)] }
def BaseGradesSaid : Prop := baseGradesRow.holds Tryz.pinned (OpenSpec.ofChange baseGradesSpec)

/-- ITS FALSE NEIGHBOUR: 'it returns false'. Refute it at one input. -/
def baseGradesWrong : ChangeSpec := { name := "baseGrades", fn := fun _ => fun
  | [d1, d2, d3] => { results := [.lit (.bool false)], args := [d1, d2, d3] }
  | _ => none }
def BaseGradesWrongFalsely : Prop := baseGradesRow.holds Tryz.pinned (OpenSpec.ofChange baseGradesWrong)

/- THE SECOND FORM. 'bulk': how many values and letters a reading holds, each counted each time it is reached (what is shared counts as often as it is met; a slice's spare places count too). A statement '..UptoSaid' is the law's where the arguments, and the package variables that the reading takes, are together of bulk at most 1048576: NARROWER than '..Said'. Prove '..Said' where nothing that the law and all that it calls make is longer than what came in: it says more and counts as full. Else prove '..UptoSaid'. A law counts once. -/
mutual
def uptoBulk {H : Type} : DataW H → Nat
  | .lit (.string bytes) => bytes.length + 1
  | .lit _ => 1
  | .nil => 1
  | .ptr d => uptoBulk d + 1
  | .slice elems spare => uptoBulkAll elems + uptoBulkAll spare + 1
  | .agg parts => uptoBulkAll parts + 1
  | .iface _ d => uptoBulk d + 1
  | .map entries => uptoBulkEntries entries + 1
  | .held _ => 1
def uptoBulkAll {H : Type} : List (DataW H) → Nat
  | [] => 0
  | d :: r => uptoBulk d + uptoBulkAll r
def uptoBulkEntries {H : Type} : List (Lit × DataW H) → Nat
  | [] => 0
  | x :: r => uptoBulkEntry x + uptoBulkEntries r
def uptoBulkEntry {H : Type} : Lit × DataW H → Nat
  | (.string bytes, d) => bytes.length + uptoBulk d + 1
  | (_, d) => uptoBulk d + 1
 end
def uptoSmall : (H : Type) → List (DataW H) → Bool := fun _ ds => decide (uptoBulkAll ds ≤ 1048576)
def OpenSpec.upto (s : _root_.Go.ChangeSpec) : _root_.Go.OpenSpec := { _root_.Go.OpenSpec.ofChange s with cond := some uptoSmall }

/-- 'rebuslaw27.BaseCopies', WHERE WHAT IT READS IS OF BULK AT MOST 1048576: true; the input reads as it did. -/
def baseCopiesUptoRow : OpenClaim := { program := "ytmojpbfkpggjhaagreatdoor", sum := "5e9cdc3f51656791cef27ee941931568eca7e5e7b1b16001659d4f741c99351a", func := "rebus/rebuslaw27.BaseCopies", spec := "baseCopies", unfollowed := true, recurses := true, named := ["math/bits.deBruijn64tab"], loops := true, apart := false, laid := [("math/bits.deBruijn64tab", laid_math_bits_deBruijn64tab)], narrowed := true }
def BaseCopiesUptoSaid : Prop := baseCopiesUptoRow.holds Tryz.pinned (OpenSpec.upto baseCopiesSpec)

/-- 'rebuslaw27.BaseCounts', WHERE WHAT IT READS IS OF BULK AT MOST 1048576: true; the input reads as it did. -/
def baseCountsUptoRow : OpenClaim := { program := "ytmojpbfkpggjhaagreatdoor", sum := "5e9cdc3f51656791cef27ee941931568eca7e5e7b1b16001659d4f741c99351a", func := "rebus/rebuslaw27.BaseCounts", spec := "baseCounts", unfollowed := true, recurses := true, named := ["math/bits.deBruijn64tab"], loops := true, apart := false, laid := [("math/bits.deBruijn64tab", laid_math_bits_deBruijn64tab)], narrowed := true }
def BaseCountsUptoSaid : Prop := baseCountsUptoRow.holds Tryz.pinned (OpenSpec.upto baseCountsSpec)

/-- 'rebuslaw27.BaseFinds', WHERE WHAT IT READS IS OF BULK AT MOST 1048576: true; the input reads as it did. -/
def baseFindsUptoRow : OpenClaim := { program := "ytmojpbfkpggjhaagreatdoor", sum := "5e9cdc3f51656791cef27ee941931568eca7e5e7b1b16001659d4f741c99351a", func := "rebus/rebuslaw27.BaseFinds", spec := "baseFinds", inPlace := ["math.Float64bits"], unfollowed := true, recurses := true, named := ["math/bits.deBruijn64tab"], loops := true, apart := false, laid := [("math/bits.deBruijn64tab", laid_math_bits_deBruijn64tab)], narrowed := true }
def BaseFindsUptoSaid : Prop := baseFindsUptoRow.holds Tryz.pinned (OpenSpec.upto baseFindsSpec)

/-- 'rebuslaw27.BaseSets', WHERE WHAT IT READS IS OF BULK AT MOST 1048576: true; the input reads as it did. -/
def baseSetsUptoRow : OpenClaim := { program := "ytmojpbfkpggjhaagreatdoor", sum := "5e9cdc3f51656791cef27ee941931568eca7e5e7b1b16001659d4f741c99351a", func := "rebus/rebuslaw27.BaseSets", spec := "baseSets", inPlace := ["math.Float64bits"], unfollowed := true, recurses := true, named := ["math/bits.deBruijn64tab"], loops := true, apart := false, laid := [("math/bits.deBruijn64tab", laid_math_bits_deBruijn64tab)], narrowed := true }
def BaseSetsUptoSaid : Prop := baseSetsUptoRow.holds Tryz.pinned (OpenSpec.upto baseSetsSpec)

/-- 'rebuslaw27.BaseGrades', WHERE WHAT IT READS IS OF BULK AT MOST 1048576: true; the input reads as it did. -/
def baseGradesUptoRow : OpenClaim := { program := "ytmojpbfkpggjhaagreatdoor", sum := "5e9cdc3f51656791cef27ee941931568eca7e5e7b1b16001659d4f741c99351a", func := "rebus/rebuslaw27.BaseGrades", spec := "baseGrades", unfollowed := true, recurses := true, named := ["math/bits.deBruijn64tab"], loops := true, apart := false, laid := [("math/bits.deBruijn64tab", laid_math_bits_deBruijn64tab)], narrowed := true }
def BaseGradesUptoSaid : Prop := baseGradesUptoRow.holds Tryz.pinned (OpenSpec.upto baseGradesSpec)

end Rows
end Go.Proofs.YtmojpbfkpggjhaaGreatDoor
