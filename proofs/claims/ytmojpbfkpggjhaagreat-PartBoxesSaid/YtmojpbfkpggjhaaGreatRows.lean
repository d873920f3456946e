/-
  NARROWER THAN 'FOR EVERY INPUT', by the rows' own cells (each row's printed sentence says how): ReshapeParts: loops · PartMixes: loops · PartBoxes: loops · JoinCatenates: loops · JoinLists: loops · JoinParts: loops.
  DERIVED. THE GIVEN ROWS OF THIS SEAT. 6 by the template 'for every input the law returns true; each argument reads behind the call as it read before'; 0 by the template 'total and deterministic' (their statements: YtmojpbfkpggjhaaGreatTotals.lean).
  GIVEN WITH THE SEED: the statements are not yours to turn. If you find one false, say at which input.
  Laid BY PROGRAM, IN A SANDBOX (cutbox-rows.mjs): the forced cells as the released guide's own fill.sh prints them over the translation abff104c853ec761… (all of the seat's roots in one cut). By AI agents, Wed Nov 11 2026. No macro, syntax, notation, axiom, sorry.
-/
import Derived.Test.YtmojpbfkpggjhaaGreatChecked
import GoSem.Claim
import GoSem.ClaimJoined
import GoSem.ClaimMapViews
import Derived.JoinedTies
import Derived.KernelRfl
namespace Go.Proofs.YtmojpbfkpggjhaaGreat
/- THE CELL 'sum', in the pinned program and in every row, IS THE sha256 OF THE DUMP (.gsa) THAT YtmojpbfkpggjhaaGreatProg.lean LOADS. Nothing in Lean hashes anything: it is a label: what it is worth is what the hold of that sum in a sandbox is worth. -/
noncomputable def Tryz.pinned : Pinned := { name := "ytmojpbfkpggjhaagreat", sum := "abff104c853ec7618f203b39bc036def415b6f870c363ae18fe0ede436c32370", checked := Tryz.checked }
namespace Rows
def none {H : Type} : Left H := { results := [], args := [] }

/-- 'rebuslaw20.ReshapeParts': WHATEVER THE INPUT: true; the input reads as it did. -/
def reshapePartsSpec : ChangeSpec := { name := "reshapeParts", fn := fun _ => fun
  | [d] => { results := [.lit (.bool true)], args := [d] }
  | _ => none }
def reshapePartsRow : OpenClaim := { program := "ytmojpbfkpggjhaagreat", sum := "abff104c853ec7618f203b39bc036def415b6f870c363ae18fe0ede436c32370", func := "rebus/rebuslaw20.ReshapeParts", spec := "reshapeParts", unfollowed := true, recurses := true, loops := true, apart := false }
def ReshapePartsSaid : Prop := reshapePartsRow.holds Tryz.pinned (OpenSpec.ofChange reshapePartsSpec)

/-- ITS FALSE NEIGHBOUR: 'it returns false'. Refute it at one input. -/
def reshapePartsWrong : ChangeSpec := { name := "reshapeParts", fn := fun _ => fun
  | [d] => { results := [.lit (.bool false)], args := [d] }
  | _ => none }
def ReshapePartsWrongFalsely : Prop := reshapePartsRow.holds Tryz.pinned (OpenSpec.ofChange reshapePartsWrong)

/-- 'rebuslaw28.PartMixes': WHATEVER THE INPUT: true; the input reads as it did. -/
def partMixesSpec : ChangeSpec := { name := "partMixes", fn := fun _ => fun
  | [d1, d2] => { results := [.lit (.bool true)], args := [d1, d2] }
  | _ => none }
def partMixesRow : OpenClaim := { program := "ytmojpbfkpggjhaagreat", sum := "abff104c853ec7618f203b39bc036def415b6f870c363ae18fe0ede436c32370", func := "rebus/rebuslaw28.PartMixes", spec := "partMixes", unfollowed := true, recurses := true, loops := true, apart := false }
def PartMixesSaid : Prop := partMixesRow.holds Tryz.pinned (OpenSpec.ofChange partMixesSpec)

/-- ITS FALSE NEIGHBOUR: 'it returns false'. Refute it at one input. -/
def partMixesWrong : ChangeSpec := { name := "partMixes", fn := fun _ => fun
  | [d1, d2] => { results := [.lit (.bool false)], args := [d1, d2] }
  | _ => none }
def PartMixesWrongFalsely : Prop := partMixesRow.holds Tryz.pinned (OpenSpec.ofChange partMixesWrong)

/-- 'rebuslaw28.PartBoxes': WHATEVER THE INPUT: true; the input reads as it did. -/
def partBoxesSpec : ChangeSpec := { name := "partBoxes", fn := fun _ => fun
  | [d] => { results := [.lit (.bool true)], args := [d] }
  | _ => none }
def partBoxesRow : OpenClaim := { program := "ytmojpbfkpggjhaagreat", sum := "abff104c853ec7618f203b39bc036def415b6f870c363ae18fe0ede436c32370", func := "rebus/rebuslaw28.PartBoxes", spec := "partBoxes", unfollowed := true, recurses := true, loops := true, apart := false }
def PartBoxesSaid : Prop := partBoxesRow.holds Tryz.pinned (OpenSpec.ofChange partBoxesSpec)

/-- ITS FALSE NEIGHBOUR: 'it returns false'. Refute it at one input. -/
def partBoxesWrong : ChangeSpec := { name := "partBoxes", fn := fun _ => fun
  | [d] => { results := [.lit (.bool false)], args := [d] }
  | _ => none }
def PartBoxesWrongFalsely : Prop := partBoxesRow.holds Tryz.pinned (OpenSpec.ofChange partBoxesWrong)

/-- 'rebuslaw22.JoinCatenates': WHATEVER THE INPUT: true; the input reads as it did. -/
def joinCatenatesSpec : ChangeSpec := { name := "joinCatenates", fn := fun _ => fun
  | [d1, d2, d3, d4] => { results := [.lit (.bool true)], args := [d1, d2, d3, d4] }
  | _ => none }
def joinCatenatesRow : OpenClaim := { program := "ytmojpbfkpggjhaagreat", sum := "abff104c853ec7618f203b39bc036def415b6f870c363ae18fe0ede436c32370", func := "rebus/rebuslaw22.JoinCatenates", spec := "joinCatenates", inPlace := ["slices.overlaps[int]"], unfollowed := true, recurses := true, loops := true, apart := false }
def JoinCatenatesSaid : Prop := joinCatenatesRow.holds Tryz.pinned (OpenSpec.ofChange joinCatenatesSpec)

/-- ITS FALSE NEIGHBOUR: 'it returns false'. Refute it at one input. -/
def joinCatenatesWrong : ChangeSpec := { name := "joinCatenates", fn := fun _ => fun
  | [d1, d2, d3, d4] => { results := [.lit (.bool false)], args := [d1, d2, d3, d4] }
  | _ => none }
def JoinCatenatesWrongFalsely : Prop := joinCatenatesRow.holds Tryz.pinned (OpenSpec.ofChange joinCatenatesWrong)

/-- 'rebuslaw22.JoinLists': WHATEVER THE INPUT: true; the input reads as it did. -/
def joinListsSpec : ChangeSpec := { name := "joinLists", fn := fun _ => fun
  | [d1, d2] => { results := [.lit (.bool true)], args := [d1, d2] }
  | _ => none }
def joinListsRow : OpenClaim := { program := "ytmojpbfkpggjhaagreat", sum := "abff104c853ec7618f203b39bc036def415b6f870c363ae18fe0ede436c32370", func := "rebus/rebuslaw22.JoinLists", spec := "joinLists", inPlace := ["slices.overlaps[int]"], unfollowed := true, recurses := true, loops := true, apart := false }
def JoinListsSaid : Prop := joinListsRow.holds Tryz.pinned (OpenSpec.ofChange joinListsSpec)

/-- ITS FALSE NEIGHBOUR: 'it returns false'. Refute it at one input. -/
def joinListsWrong : ChangeSpec := { name := "joinLists", fn := fun _ => fun
  | [d1, d2] => { results := [.lit (.bool false)], args := [d1, d2] }
  | _ => none }
def JoinListsWrongFalsely : Prop := joinListsRow.holds Tryz.pinned (OpenSpec.ofChange joinListsWrong)

/-- 'rebuslaw22.JoinParts': WHATEVER THE INPUT: true; the input reads as it did. -/
def joinPartsSpec : ChangeSpec := { name := "joinParts", fn := fun _ => fun
  | [d1, d2] => { results := [.lit (.bool true)], args := [d1, d2] }
  | _ => none }
def joinPartsRow : OpenClaim := { program := "ytmojpbfkpggjhaagreat", sum := "abff104c853ec7618f203b39bc036def415b6f870c363ae18fe0ede436c32370", func := "rebus/rebuslaw22.JoinParts", spec := "joinParts", inPlace := ["slices.overlaps[int]"], unfollowed := true, recurses := true, loops := true, apart := false }
def JoinPartsSaid : Prop := joinPartsRow.holds Tryz.pinned (OpenSpec.ofChange joinPartsSpec)

/-- ITS FALSE NEIGHBOUR: 'it returns false'. Refute it at one input. -/
def joinPartsWrong : ChangeSpec := { name := "joinParts", fn := fun _ => fun
  | [d1, d2] => { results := [.lit (.bool false)], args := [d1, d2] }
  | _ => none }
def JoinPartsWrongFalsely : Prop := joinPartsRow.holds Tryz.pinned (OpenSpec.ofChange joinPartsWrong)

/- THE SECOND FORM. 'bulk': how many values and letters a reading holds, each counted each time it is reached (what is shared counts as often as it is met; a slice's spare places count too). A statement '..UptoSaid' is the law's where the arguments, and the package variables that the reading takes, are together of bulk at most 1048576: NARROWER than '..Said'. Prove '..Said' where nothing that the law and all that it calls make is longer than what came in: it says more and counts as full. Else prove '..UptoSaid'. A law counts once. -/
mutual
def uptoBulk {H : Type} : DataW H → Nat
  | .lit (.string bytes) => bytes.length + 1
  | .lit _ => 1
  | .nil => 1
  | .ptr d => uptoBulk d + 1
  | .slice elems spare => uptoBulkAll elems + uptoBulkAll spare + 1
  | .agg parts => uptoBulkAll parts + 1
  | .iface _ d => uptoBulk d + 1
  | .map entries => uptoBulkEntries entries + 1
  | .held _ => 1
def uptoBulkAll {H : Type} : List (DataW H) → Nat
  | [] => 0
  | d :: r => uptoBulk d + uptoBulkAll r
def uptoBulkEntries {H : Type} : List (Lit × DataW H) → Nat
  | [] => 0
  | x :: r => uptoBulkEntry x + uptoBulkEntries r
def uptoBulkEntry {H : Type} : Lit × DataW H → Nat
  | (.string bytes, d) => bytes.length + uptoBulk d + 1
  | (_, d) => uptoBulk d + 1
 end
def uptoSmall : (H : Type) → List (DataW H) → Bool := fun _ ds => decide (uptoBulkAll ds ≤ 1048576)
def OpenSpec.upto (s : _root_.Go.ChangeSpec) : _root_.Go.OpenSpec := { _root_.Go.OpenSpec.ofChange s with cond := some uptoSmall }

/-- 'rebuslaw20.ReshapeParts', WHERE WHAT IT READS IS OF BULK AT MOST 1048576: true; the input reads as it did. -/
def reshapePartsUptoRow : OpenClaim := { program := "ytmojpbfkpggjhaagreat", sum := "abff104c853ec7618f203b39bc036def415b6f870c363ae18fe0ede436c32370", func := "rebus/rebuslaw20.ReshapeParts", spec := "reshapeParts", unfollowed := true, recurses := true, loops := true, apart := false, narrowed := true }
def ReshapePartsUptoSaid : Prop := reshapePartsUptoRow.holds Tryz.pinned (OpenSpec.upto reshapePartsSpec)

/-- 'rebuslaw28.PartMixes', WHERE WHAT IT READS IS OF BULK AT MOST 1048576: true; the input reads as it did. -/
def partMixesUptoRow : OpenClaim := { program := "ytmojpbfkpggjhaagreat", sum := "abff104c853ec7618f203b39bc036def415b6f870c363ae18fe0ede436c32370", func := "rebus/rebuslaw28.PartMixes", spec := "partMixes", unfollowed := true, recurses := true, loops := true, apart := false, narrowed := true }
def PartMixesUptoSaid : Prop := partMixesUptoRow.holds Tryz.pinned (OpenSpec.upto partMixesSpec)

/-- 'rebuslaw28.PartBoxes', WHERE WHAT IT READS IS OF BULK AT MOST 1048576: true; the input reads as it did. -/
def partBoxesUptoRow : OpenClaim := { program := "ytmojpbfkpggjhaagreat", sum := "abff104c853ec7618f203b39bc036def415b6f870c363ae18fe0ede436c32370", func := "rebus/rebuslaw28.PartBoxes", spec := "partBoxes", unfollowed := true, recurses := true, loops := true, apart := false, narrowed := true }
def PartBoxesUptoSaid : Prop := partBoxesUptoRow.holds Tryz.pinned (OpenSpec.upto partBoxesSpec)

/-- 'rebuslaw22.JoinCatenates', WHERE WHAT IT READS IS OF BULK AT MOST 1048576: true; the input reads as it did. -/
def joinCatenatesUptoRow : OpenClaim := { program := "ytmojpbfkpggjhaagreat", sum := "abff104c853ec7618f203b39bc036def415b6f870c363ae18fe0ede436c32370", func := "rebus/rebuslaw22.JoinCatenates", spec := "joinCatenates", inPlace := ["slices.overlaps[int]"], unfollowed := true, recurses := true, loops := true, apart := false, narrowed := true }
def JoinCatenatesUptoSaid : Prop := joinCatenatesUptoRow.holds Tryz.pinned (OpenSpec.upto joinCatenatesSpec)

/-- 'rebuslaw22.JoinLists', WHERE WHAT IT READS IS OF BULK AT MOST 1048576: true; the input reads as it did. -/
def joinListsUptoRow : OpenClaim := { program := "ytmojpbfkpggjhaagreat", sum := "abff104c853ec7618f203b39bc036def415b6f870c363ae18fe0ede436c32370", func := "rebus/rebuslaw22.JoinLists", spec := "joinLists", inPlace := ["slices.overlaps[int]"], unfollowed := true, recurses := true, loops := true, apart := false, narrowed := true }
def JoinListsUptoSaid : Prop := joinListsUptoRow.holds Tryz.pinned (OpenSpec.upto joinListsSpec)

/-- 'rebuslaw22.JoinParts', WHERE WHAT IT READS IS OF BULK AT MOST 1048576: true; the input reads as it did. -/
def joinPartsUptoRow : OpenClaim := { program := "ytmojpbfkpggjhaagreat", sum := "abff104c853ec7618f203b39bc036def415b6f870c363ae18fe0ede436c32370", func := "rebus/rebuslaw22.JoinParts", spec := "joinParts", inPlace := ["slices.overlaps[int]"], unfollowed := true, recurses := true, loops := true, apart := false, narrowed := true }
def JoinPartsUptoSaid : Prop := joinPartsUptoRow.holds Tryz.pinned (OpenSpec.upto joinPartsSpec)

end Rows
end Go.Proofs.YtmojpbfkpggjhaaGreat
