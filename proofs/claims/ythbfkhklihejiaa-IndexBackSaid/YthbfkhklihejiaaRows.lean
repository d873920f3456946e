/-
  NARROWER THAN 'FOR EVERY INPUT', by the rows' own cells (each row's printed sentence says how): ValueOf: loops · ValueAlone: loops · FlatPicks: loops · FlatTwice: loops · ValueSame: loops · FlatJoins: loops · HashKeys: loops · HashFinds: loops · FlatCuts: loops · HashFirsts: loops · PartMatches: loops · TurnBack: loops · IndexBack: loops.
  DERIVED. THE GIVEN ROWS OF THIS SEAT. 19 by the template 'for every input the law returns true; each argument reads behind the call as it read before'; 0 by the template 'total and deterministic' (their statements: YthbfkhklihejiaaTotals.lean).
  GIVEN WITH THE SEED: the statements are not yours to turn. If you find one false, say at which input.
  Laid BY PROGRAM, IN A SANDBOX (cutbox-rows.mjs): the forced cells as the released guide's own fill.sh prints them over the translation f652ad25469327c6… (all of the seat's roots in one cut). By AI agents, Wed Nov 11 2026. No macro, syntax, notation, axiom, sorry.
-/
import Derived.Test.YthbfkhklihejiaaChecked
import GoSem.Claim
import GoSem.ClaimJoined
import GoSem.ClaimMapViews
import Derived.JoinedTies
import Derived.KernelRfl
namespace Go.Proofs.Ythbfkhklihejiaa
/- THE CELL 'sum', in the pinned program and in every row, IS THE sha256 OF THE DUMP (.gsa) THAT YthbfkhklihejiaaProg.lean LOADS. Nothing in Lean hashes anything: it is a label: what it is worth is what the hold of that sum in a sandbox is worth. -/
noncomputable def Try.pinned : Pinned := { name := "ythbfkhklihejiaa", sum := "f652ad25469327c684e0daab24e3d65610686141f706e2d88b60b2e9918e8739", checked := Try.checked }
namespace Rows
def none {H : Type} : Left H := { results := [], args := [] }

/-- 'rebuslaw06.ShapeProducts': WHATEVER THE INPUT: true; the input reads as it did. -/
def shapeProductsSpec : ChangeSpec := { name := "shapeProducts", fn := fun _ => fun
  | [d1, d2] => { results := [.lit (.bool true)], args := [d1, d2] }
  | _ => none }
def shapeProductsRow : OpenClaim := { program := "ythbfkhklihejiaa", sum := "f652ad25469327c684e0daab24e3d65610686141f706e2d88b60b2e9918e8739", func := "rebus/rebuslaw06.ShapeProducts", spec := "shapeProducts", apart := false }
def ShapeProductsSaid : Prop := shapeProductsRow.holds Try.pinned (OpenSpec.ofChange shapeProductsSpec)

/-- ITS FALSE NEIGHBOUR: 'it returns false'. Refute it at one input. -/
def shapeProductsWrong : ChangeSpec := { name := "shapeProducts", fn := fun _ => fun
  | [d1, d2] => { results := [.lit (.bool false)], args := [d1, d2] }
  | _ => none }
def ShapeProductsWrongFalsely : Prop := shapeProductsRow.holds Try.pinned (OpenSpec.ofChange shapeProductsWrong)

/-- 'rebuslaw06.ShapeMisses': WHATEVER THE INPUT: true; the input reads as it did. -/
def shapeMissesSpec : ChangeSpec := { name := "shapeMisses", fn := fun _ => fun
  | [d1, d2, d3] => { results := [.lit (.bool true)], args := [d1, d2, d3] }
  | _ => none }
def shapeMissesRow : OpenClaim := { program := "ythbfkhklihejiaa", sum := "f652ad25469327c684e0daab24e3d65610686141f706e2d88b60b2e9918e8739", func := "rebus/rebuslaw06.ShapeMisses", spec := "shapeMisses", apart := false }
def ShapeMissesSaid : Prop := shapeMissesRow.holds Try.pinned (OpenSpec.ofChange shapeMissesSpec)

/-- ITS FALSE NEIGHBOUR: 'it returns false'. Refute it at one input. -/
def shapeMissesWrong : ChangeSpec := { name := "shapeMisses", fn := fun _ => fun
  | [d1, d2, d3] => { results := [.lit (.bool false)], args := [d1, d2, d3] }
  | _ => none }
def ShapeMissesWrongFalsely : Prop := shapeMissesRow.holds Try.pinned (OpenSpec.ofChange shapeMissesWrong)

/-- 'rebuslaw06.ShapePlaces': WHATEVER THE INPUT: true; the input reads as it did. -/
def shapePlacesSpec : ChangeSpec := { name := "shapePlaces", fn := fun _ => fun
  | [d] => { results := [.lit (.bool true)], args := [d] }
  | _ => none }
def shapePlacesRow : OpenClaim := { program := "ythbfkhklihejiaa", sum := "f652ad25469327c684e0daab24e3d65610686141f706e2d88b60b2e9918e8739", func := "rebus/rebuslaw06.ShapePlaces", spec := "shapePlaces", apart := false }
def ShapePlacesSaid : Prop := shapePlacesRow.holds Try.pinned (OpenSpec.ofChange shapePlacesSpec)

/-- ITS FALSE NEIGHBOUR: 'it returns false'. Refute it at one input. -/
def shapePlacesWrong : ChangeSpec := { name := "shapePlaces", fn := fun _ => fun
  | [d] => { results := [.lit (.bool false)], args := [d] }
  | _ => none }
def ShapePlacesWrongFalsely : Prop := shapePlacesRow.holds Try.pinned (OpenSpec.ofChange shapePlacesWrong)

/-- 'rebuslaw06.ShapeAxes': WHATEVER THE INPUT: true; the input reads as it did. -/
def shapeAxesSpec : ChangeSpec := { name := "shapeAxes", fn := fun _ => fun
  | [d1, d2, d3, d4] => { results := [.lit (.bool true)], args := [d1, d2, d3, d4] }
  | _ => none }
def shapeAxesRow : OpenClaim := { program := "ythbfkhklihejiaa", sum := "f652ad25469327c684e0daab24e3d65610686141f706e2d88b60b2e9918e8739", func := "rebus/rebuslaw06.ShapeAxes", spec := "shapeAxes", apart := false }
def ShapeAxesSaid : Prop := shapeAxesRow.holds Try.pinned (OpenSpec.ofChange shapeAxesSpec)

/-- ITS FALSE NEIGHBOUR: 'it returns false'. Refute it at one input. -/
def shapeAxesWrong : ChangeSpec := { name := "shapeAxes", fn := fun _ => fun
  | [d1, d2, d3, d4] => { results := [.lit (.bool false)], args := [d1, d2, d3, d4] }
  | _ => none }
def ShapeAxesWrongFalsely : Prop := shapeAxesRow.holds Try.pinned (OpenSpec.ofChange shapeAxesWrong)

/-- 'rebuslaw07.ValueOf': WHATEVER THE INPUT: true; the input reads as it did. -/
def valueOfSpec : ChangeSpec := { name := "valueOf", fn := fun _ => fun
  | [d] => { results := [.lit (.bool true)], args := [d] }
  | _ => none }
def valueOfRow : OpenClaim := { program := "ythbfkhklihejiaa", sum := "f652ad25469327c684e0daab24e3d65610686141f706e2d88b60b2e9918e8739", func := "rebus/rebuslaw07.ValueOf", spec := "valueOf", unfollowed := true, recurses := true, loops := true, apart := false }
def ValueOfSaid : Prop := valueOfRow.holds Try.pinned (OpenSpec.ofChange valueOfSpec)

/-- ITS FALSE NEIGHBOUR: 'it returns false'. Refute it at one input. -/
def valueOfWrong : ChangeSpec := { name := "valueOf", fn := fun _ => fun
  | [d] => { results := [.lit (.bool false)], args := [d] }
  | _ => none }
def ValueOfWrongFalsely : Prop := valueOfRow.holds Try.pinned (OpenSpec.ofChange valueOfWrong)

/-- 'rebuslaw07.ValueAlone': WHATEVER THE INPUT: true; the input reads as it did. -/
def valueAloneSpec : ChangeSpec := { name := "valueAlone", fn := fun _ => fun
  | [d1, d2, d3, d4] => { results := [.lit (.bool true)], args := [d1, d2, d3, d4] }
  | _ => none }
def valueAloneRow : OpenClaim := { program := "ythbfkhklihejiaa", sum := "f652ad25469327c684e0daab24e3d65610686141f706e2d88b60b2e9918e8739", func := "rebus/rebuslaw07.ValueAlone", spec := "valueAlone", unfollowed := true, recurses := true, loops := true, apart := false }
def ValueAloneSaid : Prop := valueAloneRow.holds Try.pinned (OpenSpec.ofChange valueAloneSpec)

/-- ITS FALSE NEIGHBOUR: 'it returns false'. Refute it at one input. -/
def valueAloneWrong : ChangeSpec := { name := "valueAlone", fn := fun _ => fun
  | [d1, d2, d3, d4] => { results := [.lit (.bool false)], args := [d1, d2, d3, d4] }
  | _ => none }
def ValueAloneWrongFalsely : Prop := valueAloneRow.holds Try.pinned (OpenSpec.ofChange valueAloneWrong)

/-- 'rebuslaw07.ValueNew': WHATEVER THE INPUT: true; the input reads as it did. -/
def valueNewSpec : ChangeSpec := { name := "valueNew", fn := fun _ => fun
  | [d1, d2, d3] => { results := [.lit (.bool true)], args := [d1, d2, d3] }
  | _ => none }
def valueNewRow : OpenClaim := { program := "ythbfkhklihejiaa", sum := "f652ad25469327c684e0daab24e3d65610686141f706e2d88b60b2e9918e8739", func := "rebus/rebuslaw07.ValueNew", spec := "valueNew", unfollowed := true, recurses := true, apart := false }
def ValueNewSaid : Prop := valueNewRow.holds Try.pinned (OpenSpec.ofChange valueNewSpec)

/-- ITS FALSE NEIGHBOUR: 'it returns false'. Refute it at one input. -/
def valueNewWrong : ChangeSpec := { name := "valueNew", fn := fun _ => fun
  | [d1, d2, d3] => { results := [.lit (.bool false)], args := [d1, d2, d3] }
  | _ => none }
def ValueNewWrongFalsely : Prop := valueNewRow.holds Try.pinned (OpenSpec.ofChange valueNewWrong)

/-- 'rebuslaw08.FlatPicks': WHATEVER THE INPUT: true; the input reads as it did. -/
def flatPicksSpec : ChangeSpec := { name := "flatPicks", fn := fun _ => fun
  | [d1, d2] => { results := [.lit (.bool true)], args := [d1, d2] }
  | _ => none }
def flatPicksRow : OpenClaim := { program := "ythbfkhklihejiaa", sum := "f652ad25469327c684e0daab24e3d65610686141f706e2d88b60b2e9918e8739", func := "rebus/rebuslaw08.FlatPicks", spec := "flatPicks", recurses := true, loops := true, apart := false }
def FlatPicksSaid : Prop := flatPicksRow.holds Try.pinned (OpenSpec.ofChange flatPicksSpec)

/-- ITS FALSE NEIGHBOUR: 'it returns false'. Refute it at one input. -/
def flatPicksWrong : ChangeSpec := { name := "flatPicks", fn := fun _ => fun
  | [d1, d2] => { results := [.lit (.bool false)], args := [d1, d2] }
  | _ => none }
def FlatPicksWrongFalsely : Prop := flatPicksRow.holds Try.pinned (OpenSpec.ofChange flatPicksWrong)

/-- 'rebuslaw08.FlatTwice': WHATEVER THE INPUT: true; the input reads as it did. -/
def flatTwiceSpec : ChangeSpec := { name := "flatTwice", fn := fun _ => fun
  | [d1, d2, d3] => { results := [.lit (.bool true)], args := [d1, d2, d3] }
  | _ => none }
def flatTwiceRow : OpenClaim := { program := "ythbfkhklihejiaa", sum := "f652ad25469327c684e0daab24e3d65610686141f706e2d88b60b2e9918e8739", func := "rebus/rebuslaw08.FlatTwice", spec := "flatTwice", recurses := true, loops := true, apart := false }
def FlatTwiceSaid : Prop := flatTwiceRow.holds Try.pinned (OpenSpec.ofChange flatTwiceSpec)

/-- ITS FALSE NEIGHBOUR: 'it returns false'. Refute it at one input. -/
def flatTwiceWrong : ChangeSpec := { name := "flatTwice", fn := fun _ => fun
  | [d1, d2, d3] => { results := [.lit (.bool false)], args := [d1, d2, d3] }
  | _ => none }
def FlatTwiceWrongFalsely : Prop := flatTwiceRow.holds Try.pinned (OpenSpec.ofChange flatTwiceWrong)

/-- 'rebuslaw07.ValueSame': WHATEVER THE INPUT: true; the input reads as it did. -/
def valueSameSpec : ChangeSpec := { name := "valueSame", fn := fun _ => fun
  | [d1, d2] => { results := [.lit (.bool true)], args := [d1, d2] }
  | _ => none }
def valueSameRow : OpenClaim := { program := "ythbfkhklihejiaa", sum := "f652ad25469327c684e0daab24e3d65610686141f706e2d88b60b2e9918e8739", func := "rebus/rebuslaw07.ValueSame", spec := "valueSame", unfollowed := true, recurses := true, loops := true, apart := false }
def ValueSameSaid : Prop := valueSameRow.holds Try.pinned (OpenSpec.ofChange valueSameSpec)

/-- ITS FALSE NEIGHBOUR: 'it returns false'. Refute it at one input. -/
def valueSameWrong : ChangeSpec := { name := "valueSame", fn := fun _ => fun
  | [d1, d2] => { results := [.lit (.bool false)], args := [d1, d2] }
  | _ => none }
def ValueSameWrongFalsely : Prop := valueSameRow.holds Try.pinned (OpenSpec.ofChange valueSameWrong)

/-- 'rebuslaw08.FlatJoins': WHATEVER THE INPUT: true; the input reads as it did. -/
def flatJoinsSpec : ChangeSpec := { name := "flatJoins", fn := fun _ => fun
  | [d] => { results := [.lit (.bool true)], args := [d] }
  | _ => none }
def flatJoinsRow : OpenClaim := { program := "ythbfkhklihejiaa", sum := "f652ad25469327c684e0daab24e3d65610686141f706e2d88b60b2e9918e8739", func := "rebus/rebuslaw08.FlatJoins", spec := "flatJoins", recurses := true, loops := true, apart := false }
def FlatJoinsSaid : Prop := flatJoinsRow.holds Try.pinned (OpenSpec.ofChange flatJoinsSpec)

/-- ITS FALSE NEIGHBOUR: 'it returns false'. Refute it at one input. -/
def flatJoinsWrong : ChangeSpec := { name := "flatJoins", fn := fun _ => fun
  | [d] => { results := [.lit (.bool false)], args := [d] }
  | _ => none }
def FlatJoinsWrongFalsely : Prop := flatJoinsRow.holds Try.pinned (OpenSpec.ofChange flatJoinsWrong)

/-- 'rebuslaw19.HashKeys': WHATEVER THE INPUT: true; the input reads as it did. -/
def hashKeysSpec : ChangeSpec := { name := "hashKeys", fn := fun _ => fun
  | [d1, d2, d3, d4] => { results := [.lit (.bool true)], args := [d1, d2, d3, d4] }
  | _ => none }
def hashKeysRow : OpenClaim := { program := "ythbfkhklihejiaa", sum := "f652ad25469327c684e0daab24e3d65610686141f706e2d88b60b2e9918e8739", func := "rebus/rebuslaw19.HashKeys", spec := "hashKeys", inPlace := ["math.Float64bits"], recurses := true, loops := true, apart := false }
def HashKeysSaid : Prop := hashKeysRow.holds Try.pinned (OpenSpec.ofChange hashKeysSpec)

/-- ITS FALSE NEIGHBOUR: 'it returns false'. Refute it at one input. -/
def hashKeysWrong : ChangeSpec := { name := "hashKeys", fn := fun _ => fun
  | [d1, d2, d3, d4] => { results := [.lit (.bool false)], args := [d1, d2, d3, d4] }
  | _ => none }
def HashKeysWrongFalsely : Prop := hashKeysRow.holds Try.pinned (OpenSpec.ofChange hashKeysWrong)

/-- 'rebuslaw19.HashFinds': WHATEVER THE INPUT: true; the input reads as it did. -/
def hashFindsSpec : ChangeSpec := { name := "hashFinds", fn := fun _ => fun
  | [d1, d2] => { results := [.lit (.bool true)], args := [d1, d2] }
  | _ => none }
def hashFindsRow : OpenClaim := { program := "ythbfkhklihejiaa", sum := "f652ad25469327c684e0daab24e3d65610686141f706e2d88b60b2e9918e8739", func := "rebus/rebuslaw19.HashFinds", spec := "hashFinds", inPlace := ["math.Float64bits"], recurses := true, loops := true, apart := false }
def HashFindsSaid : Prop := hashFindsRow.holds Try.pinned (OpenSpec.ofChange hashFindsSpec)

/-- ITS FALSE NEIGHBOUR: 'it returns false'. Refute it at one input. -/
def hashFindsWrong : ChangeSpec := { name := "hashFinds", fn := fun _ => fun
  | [d1, d2] => { results := [.lit (.bool false)], args := [d1, d2] }
  | _ => none }
def HashFindsWrongFalsely : Prop := hashFindsRow.holds Try.pinned (OpenSpec.ofChange hashFindsWrong)

/-- 'rebuslaw08.FlatCuts': WHATEVER THE INPUT: true; the input reads as it did. -/
def flatCutsSpec : ChangeSpec := { name := "flatCuts", fn := fun _ => fun
  | [d1, d2, d3, d4] => { results := [.lit (.bool true)], args := [d1, d2, d3, d4] }
  | _ => none }
def flatCutsRow : OpenClaim := { program := "ythbfkhklihejiaa", sum := "f652ad25469327c684e0daab24e3d65610686141f706e2d88b60b2e9918e8739", func := "rebus/rebuslaw08.FlatCuts", spec := "flatCuts", recurses := true, loops := true, apart := false }
def FlatCutsSaid : Prop := flatCutsRow.holds Try.pinned (OpenSpec.ofChange flatCutsSpec)

/-- ITS FALSE NEIGHBOUR: 'it returns false'. Refute it at one input. -/
def flatCutsWrong : ChangeSpec := { name := "flatCuts", fn := fun _ => fun
  | [d1, d2, d3, d4] => { results := [.lit (.bool false)], args := [d1, d2, d3, d4] }
  | _ => none }
def FlatCutsWrongFalsely : Prop := flatCutsRow.holds Try.pinned (OpenSpec.ofChange flatCutsWrong)

/-- 'rebuslaw19.HashFirsts': WHATEVER THE INPUT: true; the input reads as it did. -/
def hashFirstsSpec : ChangeSpec := { name := "hashFirsts", fn := fun _ => fun
  | [d1, d2] => { results := [.lit (.bool true)], args := [d1, d2] }
  | _ => none }
def hashFirstsRow : OpenClaim := { program := "ythbfkhklihejiaa", sum := "f652ad25469327c684e0daab24e3d65610686141f706e2d88b60b2e9918e8739", func := "rebus/rebuslaw19.HashFirsts", spec := "hashFirsts", inPlace := ["math.Float64bits"], recurses := true, loops := true, apart := false }
def HashFirstsSaid : Prop := hashFirstsRow.holds Try.pinned (OpenSpec.ofChange hashFirstsSpec)

/-- ITS FALSE NEIGHBOUR: 'it returns false'. Refute it at one input. -/
def hashFirstsWrong : ChangeSpec := { name := "hashFirsts", fn := fun _ => fun
  | [d1, d2] => { results := [.lit (.bool false)], args := [d1, d2] }
  | _ => none }
def HashFirstsWrongFalsely : Prop := hashFirstsRow.holds Try.pinned (OpenSpec.ofChange hashFirstsWrong)

/-- 'rebuslaw28.PartMatches': WHATEVER THE INPUT: true; the input reads as it did. -/
def partMatchesSpec : ChangeSpec := { name := "partMatches", fn := fun _ => fun
  | [d1, d2, d3] => { results := [.lit (.bool true)], args := [d1, d2, d3] }
  | _ => none }
def partMatchesRow : OpenClaim := { program := "ythbfkhklihejiaa", sum := "f652ad25469327c684e0daab24e3d65610686141f706e2d88b60b2e9918e8739", func := "rebus/rebuslaw28.PartMatches", spec := "partMatches", unfollowed := true, recurses := true, loops := true, apart := false }
def PartMatchesSaid : Prop := partMatchesRow.holds Try.pinned (OpenSpec.ofChange partMatchesSpec)

/-- ITS FALSE NEIGHBOUR: 'it returns false'. Refute it at one input. -/
def partMatchesWrong : ChangeSpec := { name := "partMatches", fn := fun _ => fun
  | [d1, d2, d3] => { results := [.lit (.bool false)], args := [d1, d2, d3] }
  | _ => none }
def PartMatchesWrongFalsely : Prop := partMatchesRow.holds Try.pinned (OpenSpec.ofChange partMatchesWrong)

/-- 'rebuslaw28.PartCuts': WHATEVER THE INPUT: true; the input reads as it did. -/
def partCutsSpec : ChangeSpec := { name := "partCuts", fn := fun _ => fun
  | [d1, d2] => { results := [.lit (.bool true)], args := [d1, d2] }
  | _ => none }
def partCutsRow : OpenClaim := { program := "ythbfkhklihejiaa", sum := "f652ad25469327c684e0daab24e3d65610686141f706e2d88b60b2e9918e8739", func := "rebus/rebuslaw28.PartCuts", spec := "partCuts", unfollowed := true, recurses := true, apart := false }
def PartCutsSaid : Prop := partCutsRow.holds Try.pinned (OpenSpec.ofChange partCutsSpec)

/-- ITS FALSE NEIGHBOUR: 'it returns false'. Refute it at one input. -/
def partCutsWrong : ChangeSpec := { name := "partCuts", fn := fun _ => fun
  | [d1, d2] => { results := [.lit (.bool false)], args := [d1, d2] }
  | _ => none }
def PartCutsWrongFalsely : Prop := partCutsRow.holds Try.pinned (OpenSpec.ofChange partCutsWrong)

/-- 'rebuslaw21.TurnBack': WHATEVER THE INPUT: true; the input reads as it did. -/
def turnBackSpec : ChangeSpec := { name := "turnBack", fn := fun _ => fun
  | [d1, d2, d3] => { results := [.lit (.bool true)], args := [d1, d2, d3] }
  | _ => none }
def turnBackRow : OpenClaim := { program := "ythbfkhklihejiaa", sum := "f652ad25469327c684e0daab24e3d65610686141f706e2d88b60b2e9918e8739", func := "rebus/rebuslaw21.TurnBack", spec := "turnBack", unfollowed := true, recurses := true, loops := true, apart := false }
def TurnBackSaid : Prop := turnBackRow.holds Try.pinned (OpenSpec.ofChange turnBackSpec)

/-- ITS FALSE NEIGHBOUR: 'it returns false'. Refute it at one input. -/
def turnBackWrong : ChangeSpec := { name := "turnBack", fn := fun _ => fun
  | [d1, d2, d3] => { results := [.lit (.bool false)], args := [d1, d2, d3] }
  | _ => none }
def TurnBackWrongFalsely : Prop := turnBackRow.holds Try.pinned (OpenSpec.ofChange turnBackWrong)

/-- 'rebuslaw23.IndexBack': WHATEVER THE INPUT: true; the input reads as it did. -/
def indexBackSpec : ChangeSpec := { name := "indexBack", fn := fun _ => fun
  | [d1, d2, d3, d4] => { results := [.lit (.bool true)], args := [d1, d2, d3, d4] }
  | _ => none }
def indexBackRow : OpenClaim := { program := "ythbfkhklihejiaa", sum := "f652ad25469327c684e0daab24e3d65610686141f706e2d88b60b2e9918e8739", func := "rebus/rebuslaw23.IndexBack", spec := "indexBack", unfollowed := true, recurses := true, loops := true, apart := false }
def IndexBackSaid : Prop := indexBackRow.holds Try.pinned (OpenSpec.ofChange indexBackSpec)

/-- ITS FALSE NEIGHBOUR: 'it returns false'. Refute it at one input. -/
def indexBackWrong : ChangeSpec := { name := "indexBack", fn := fun _ => fun
  | [d1, d2, d3, d4] => { results := [.lit (.bool false)], args := [d1, d2, d3, d4] }
  | _ => none }
def IndexBackWrongFalsely : Prop := indexBackRow.holds Try.pinned (OpenSpec.ofChange indexBackWrong)

/- THE SECOND FORM. 'bulk': how many values and letters a reading holds, each counted each time it is reached (what is shared counts as often as it is met; a slice's spare places count too). A statement '..UptoSaid' is the law's where the arguments, and the package variables that the reading takes, are together of bulk at most 1048576: NARROWER than '..Said'. Prove '..Said' where nothing that the law and all that it calls make is longer than what came in: it says more and counts as full. Else prove '..UptoSaid'. A law counts once. -/
mutual
def uptoBulk {H : Type} : DataW H → Nat
  | .lit (.string bytes) => bytes.length + 1
  | .lit _ => 1
  | .nil => 1
  | .ptr d => uptoBulk d + 1
  | .slice elems spare => uptoBulkAll elems + uptoBulkAll spare + 1
  | .agg parts => uptoBulkAll parts + 1
  | .iface _ d => uptoBulk d + 1
  | .map entries => uptoBulkEntries entries + 1
  | .held _ => 1
def uptoBulkAll {H : Type} : List (DataW H) → Nat
  | [] => 0
  | d :: r => uptoBulk d + uptoBulkAll r
def uptoBulkEntries {H : Type} : List (Lit × DataW H) → Nat
  | [] => 0
  | x :: r => uptoBulkEntry x + uptoBulkEntries r
def uptoBulkEntry {H : Type} : Lit × DataW H → Nat
  | (.string bytes, d) => bytes.length + uptoBulk d + 1
  | (_, d) => uptoBulk d + 1
 end
def uptoSmall : (H : Type) → List (DataW H) → Bool := fun _ ds => decide (uptoBulkAll ds ≤ 1048576)
def OpenSpec.upto (s : _root_.Go.ChangeSpec) : _root_.Go.OpenSpec := { _root_.Go.OpenSpec.ofChange s with cond := some uptoSmall }

/-- 'rebuslaw06.ShapeProducts', WHERE WHAT IT READS IS OF BULK AT MOST 1048576: true; the input reads as it did. -/
def shapeProductsUptoRow : OpenClaim := { program := "ythbfkhklihejiaa", sum := "f652ad25469327c684e0daab24e3d65610686141f706e2d88b60b2e9918e8739", func := "rebus/rebuslaw06.ShapeProducts", spec := "shapeProducts", apart := false, narrowed := true }
def ShapeProductsUptoSaid : Prop := shapeProductsUptoRow.holds Try.pinned (OpenSpec.upto shapeProductsSpec)

/-- 'rebuslaw06.ShapeMisses', WHERE WHAT IT READS IS OF BULK AT MOST 1048576: true; the input reads as it did. -/
def shapeMissesUptoRow : OpenClaim := { program := "ythbfkhklihejiaa", sum := "f652ad25469327c684e0daab24e3d65610686141f706e2d88b60b2e9918e8739", func := "rebus/rebuslaw06.ShapeMisses", spec := "shapeMisses", apart := false, narrowed := true }
def ShapeMissesUptoSaid : Prop := shapeMissesUptoRow.holds Try.pinned (OpenSpec.upto shapeMissesSpec)

/-- 'rebuslaw06.ShapePlaces', WHERE WHAT IT READS IS OF BULK AT MOST 1048576: true; the input reads as it did. -/
def shapePlacesUptoRow : OpenClaim := { program := "ythbfkhklihejiaa", sum := "f652ad25469327c684e0daab24e3d65610686141f706e2d88b60b2e9918e8739", func := "rebus/rebuslaw06.ShapePlaces", spec := "shapePlaces", apart := false, narrowed := true }
def ShapePlacesUptoSaid : Prop := shapePlacesUptoRow.holds Try.pinned (OpenSpec.upto shapePlacesSpec)

/-- 'rebuslaw06.ShapeAxes', WHERE WHAT IT READS IS OF BULK AT MOST 1048576: true; the input reads as it did. -/
def shapeAxesUptoRow : OpenClaim := { program := "ythbfkhklihejiaa", sum := "f652ad25469327c684e0daab24e3d65610686141f706e2d88b60b2e9918e8739", func := "rebus/rebuslaw06.ShapeAxes", spec := "shapeAxes", apart := false, narrowed := true }
def ShapeAxesUptoSaid : Prop := shapeAxesUptoRow.holds Try.pinned (OpenSpec.upto shapeAxesSpec)

/-- 'rebuslaw07.ValueOf', WHERE WHAT IT READS IS OF BULK AT MOST 1048576: true; the input reads as it did. -/
def valueOfUptoRow : OpenClaim := { program := "ythbfkhklihejiaa", sum := "f652ad25469327c684e0daab24e3d65610686141f706e2d88b60b2e9918e8739", func := "rebus/rebuslaw07.ValueOf", spec := "valueOf", unfollowed := true, recurses := true, loops := true, apart := false, narrowed := true }
def ValueOfUptoSaid : Prop := valueOfUptoRow.holds Try.pinned (OpenSpec.upto valueOfSpec)

/-- 'rebuslaw07.ValueAlone', WHERE WHAT IT READS IS OF BULK AT MOST 1048576: true; the input reads as it did. -/
def valueAloneUptoRow : OpenClaim := { program := "ythbfkhklihejiaa", sum := "f652ad25469327c684e0daab24e3d65610686141f706e2d88b60b2e9918e8739", func := "rebus/rebuslaw07.ValueAlone", spec := "valueAlone", unfollowed := true, recurses := true, loops := true, apart := false, narrowed := true }
def ValueAloneUptoSaid : Prop := valueAloneUptoRow.holds Try.pinned (OpenSpec.upto valueAloneSpec)

/-- 'rebuslaw07.ValueNew', WHERE WHAT IT READS IS OF BULK AT MOST 1048576: true; the input reads as it did. -/
def valueNewUptoRow : OpenClaim := { program := "ythbfkhklihejiaa", sum := "f652ad25469327c684e0daab24e3d65610686141f706e2d88b60b2e9918e8739", func := "rebus/rebuslaw07.ValueNew", spec := "valueNew", unfollowed := true, recurses := true, apart := false, narrowed := true }
def ValueNewUptoSaid : Prop := valueNewUptoRow.holds Try.pinned (OpenSpec.upto valueNewSpec)

/-- 'rebuslaw08.FlatPicks', WHERE WHAT IT READS IS OF BULK AT MOST 1048576: true; the input reads as it did. -/
def flatPicksUptoRow : OpenClaim := { program := "ythbfkhklihejiaa", sum := "f652ad25469327c684e0daab24e3d65610686141f706e2d88b60b2e9918e8739", func := "rebus/rebuslaw08.FlatPicks", spec := "flatPicks", recurses := true, loops := true, apart := false, narrowed := true }
def FlatPicksUptoSaid : Prop := flatPicksUptoRow.holds Try.pinned (OpenSpec.upto flatPicksSpec)

/-- 'rebuslaw08.FlatTwice', WHERE WHAT IT READS IS OF BULK AT MOST 1048576: true; the input reads as it did. -/
def flatTwiceUptoRow : OpenClaim := { program := "ythbfkhklihejiaa", sum := "f652ad25469327c684e0daab24e3d65610686141f706e2d88b60b2e9918e8739", func := "rebus/rebuslaw08.FlatTwice", spec := "flatTwice", recurses := true, loops := true, apart := false, narrowed := true }
def FlatTwiceUptoSaid : Prop := flatTwiceUptoRow.holds Try.pinned (OpenSpec.upto flatTwiceSpec)

/-- 'rebuslaw07.ValueSame', WHERE WHAT IT READS IS OF BULK AT MOST 1048576: true; the input reads as it did. -/
def valueSameUptoRow : OpenClaim := { program := "ythbfkhklihejiaa", sum := "f652ad25469327c684e0daab24e3d65610686141f706e2d88b60b2e9918e8739", func := "rebus/rebuslaw07.ValueSame", spec := "valueSame", unfollowed := true, recurses := true, loops := true, apart := false, narrowed := true }
def ValueSameUptoSaid : Prop := valueSameUptoRow.holds Try.pinned (OpenSpec.upto valueSameSpec)

/-- 'rebuslaw08.FlatJoins', WHERE WHAT IT READS IS OF BULK AT MOST 1048576: true; the input reads as it did. -/
def flatJoinsUptoRow : OpenClaim := { program := "ythbfkhklihejiaa", sum := "f652ad25469327c684e0daab24e3d65610686141f706e2d88b60b2e9918e8739", func := "rebus/rebuslaw08.FlatJoins", spec := "flatJoins", recurses := true, loops := true, apart := false, narrowed := true }
def FlatJoinsUptoSaid : Prop := flatJoinsUptoRow.holds Try.pinned (OpenSpec.upto flatJoinsSpec)

/-- 'rebuslaw19.HashKeys', WHERE WHAT IT READS IS OF BULK AT MOST 1048576: true; the input reads as it did. -/
def hashKeysUptoRow : OpenClaim := { program := "ythbfkhklihejiaa", sum := "f652ad25469327c684e0daab24e3d65610686141f706e2d88b60b2e9918e8739", func := "rebus/rebuslaw19.HashKeys", spec := "hashKeys", inPlace := ["math.Float64bits"], recurses := true, loops := true, apart := false, narrowed := true }
def HashKeysUptoSaid : Prop := hashKeysUptoRow.holds Try.pinned (OpenSpec.upto hashKeysSpec)

/-- 'rebuslaw19.HashFinds', WHERE WHAT IT READS IS OF BULK AT MOST 1048576: true; the input reads as it did. -/
def hashFindsUptoRow : OpenClaim := { program := "ythbfkhklihejiaa", sum := "f652ad25469327c684e0daab24e3d65610686141f706e2d88b60b2e9918e8739", func := "rebus/rebuslaw19.HashFinds", spec := "hashFinds", inPlace := ["math.Float64bits"], recurses := true, loops := true, apart := false, narrowed := true }
def HashFindsUptoSaid : Prop := hashFindsUptoRow.holds Try.pinned (OpenSpec.upto hashFindsSpec)

/-- 'rebuslaw08.FlatCuts', WHERE WHAT IT READS IS OF BULK AT MOST 1048576: true; the input reads as it did. -/
def flatCutsUptoRow : OpenClaim := { program := "ythbfkhklihejiaa", sum := "f652ad25469327c684e0daab24e3d65610686141f706e2d88b60b2e9918e8739", func := "rebus/rebuslaw08.FlatCuts", spec := "flatCuts", recurses := true, loops := true, apart := false, narrowed := true }
def FlatCutsUptoSaid : Prop := flatCutsUptoRow.holds Try.pinned (OpenSpec.upto flatCutsSpec)

/-- 'rebuslaw19.HashFirsts', WHERE WHAT IT READS IS OF BULK AT MOST 1048576: true; the input reads as it did. -/
def hashFirstsUptoRow : OpenClaim := { program := "ythbfkhklihejiaa", sum := "f652ad25469327c684e0daab24e3d65610686141f706e2d88b60b2e9918e8739", func := "rebus/rebuslaw19.HashFirsts", spec := "hashFirsts", inPlace := ["math.Float64bits"], recurses := true, loops := true, apart := false, narrowed := true }
def HashFirstsUptoSaid : Prop := hashFirstsUptoRow.holds Try.pinned (OpenSpec.upto hashFirstsSpec)

/-- 'rebuslaw28.PartMatches', WHERE WHAT IT READS IS OF BULK AT MOST 1048576: true; the input reads as it did. -/
def partMatchesUptoRow : OpenClaim := { program := "ythbfkhklihejiaa", sum := "f652ad25469327c684e0daab24e3d65610686141f706e2d88b60b2e9918e8739", func := "rebus/rebuslaw28.PartMatches", spec := "partMatches", unfollowed := true, recurses := true, loops := true, apart := false, narrowed := true }
def PartMatchesUptoSaid : Prop := partMatchesUptoRow.holds Try.pinned (OpenSpec.upto partMatchesSpec)

/-- 'rebuslaw28.PartCuts', WHERE WHAT IT READS IS OF BULK AT MOST 1048576: true; the input reads as it did. -/
def partCutsUptoRow : OpenClaim := { program := "ythbfkhklihejiaa", sum := "f652ad25469327c684e0daab24e3d65610686141f706e2d88b60b2e9918e8739", func := "rebus/rebuslaw28.PartCuts", spec := "partCuts", unfollowed := true, recurses := true, apart := false, narrowed := true }
def PartCutsUptoSaid : Prop := partCutsUptoRow.holds Try.pinned (OpenSpec.upto partCutsSpec)

/-- 'rebuslaw21.TurnBack', WHERE WHAT IT READS IS OF BULK AT MOST 1048576: true; the input reads as it did. -/
def turnBackUptoRow : OpenClaim := { program := "ythbfkhklihejiaa", sum := "f652ad25469327c684e0daab24e3d65610686141f706e2d88b60b2e9918e8739", func := "rebus/rebuslaw21.TurnBack", spec := "turnBack", unfollowed := true, recurses := true, loops := true, apart := false, narrowed := true }
def TurnBackUptoSaid : Prop := turnBackUptoRow.holds Try.pinned (OpenSpec.upto turnBackSpec)

/-- 'rebuslaw23.IndexBack', WHERE WHAT IT READS IS OF BULK AT MOST 1048576: true; the input reads as it did. -/
def indexBackUptoRow : OpenClaim := { program := "ythbfkhklihejiaa", sum := "f652ad25469327c684e0daab24e3d65610686141f706e2d88b60b2e9918e8739", func := "rebus/rebuslaw23.IndexBack", spec := "indexBack", unfollowed := true, recurses := true, loops := true, apart := false, narrowed := true }
def IndexBackUptoSaid : Prop := indexBackUptoRow.holds Try.pinned (OpenSpec.upto indexBackSpec)

end Rows
end Go.Proofs.Ythbfkhklihejiaa
