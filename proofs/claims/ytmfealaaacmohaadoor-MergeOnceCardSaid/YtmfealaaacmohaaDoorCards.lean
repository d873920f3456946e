/-
  DERIVED. GIVEN WITH THE SEED: THE CARDS: each row of YtmfealaaacmohaaDoorRows.lean that lists a variable, with what it lists TIED to the program's text (the seventh form; the later family's looks); each row that meets fmt, with fmt's text TOLD by the authors' own Lean function (tested against real Go, not proved from fmt's source: count such statements apart). THE CARD IS WHAT COUNTS. Prove the row's statement (the work); the ties are given (YtmfealaaacmohaaDoorTie.lean); close each card by the builder's one call (the guide's Derived/Test/ToyasCard.lean, 'card_holds'). Laid BY PROGRAM, IN A SANDBOX (cutbox-door.mjs). By AI agents, Wed Nov 11 2026. No macro, syntax, notation, axiom, sorry.
-/
import Derived.Test.YtmfealaaacmohaaDoorRows
import GoSem.ClaimSeven
namespace Go.Proofs.YtmfealaaacmohaaDoor
namespace Rows

/-- THE TIED CARD OF 'rebuslaw15.PickCopies'. -/
def pickCopiesCard : Claim7 := { stood := { row := pickCopiesRow, standIns := [], harness := (true, "32de9882155891280a700c8ff72a29c2c49efc0f17fa9f5d336374d0588e936e"), looks := false }, kinds := [], alts := [], laidByText := true, laidKinds := [.data], laidTests := true, laidLooks := .later }
def PickCopiesCardSaid : Prop := Claim7.holds Tryd.pinned (.plain (OpenSpec.ofChange pickCopiesSpec)) pickCopiesCard

/-- THE TIED CARD OF 'rebuslaw17.RadixPasses'. -/
def radixPassesCard : Claim7 := { stood := { row := radixPassesRow, standIns := [], harness := (true, "32de9882155891280a700c8ff72a29c2c49efc0f17fa9f5d336374d0588e936e"), looks := false }, kinds := [], alts := [], laidByText := true, laidKinds := [.data], laidTests := true, laidLooks := .later }
def RadixPassesCardSaid : Prop := Claim7.holds Tryd.pinned (.plain (OpenSpec.ofChange radixPassesSpec)) radixPassesCard

/-- THE TIED CARD OF 'rebuslaw15.PickTakes'. -/
def pickTakesCard : Claim7 := { stood := { row := pickTakesRow, standIns := [], harness := (true, "32de9882155891280a700c8ff72a29c2c49efc0f17fa9f5d336374d0588e936e"), looks := false }, kinds := [], alts := [], laidByText := true, laidKinds := [.data], laidTests := true, laidLooks := .later }
def PickTakesCardSaid : Prop := Claim7.holds Tryd.pinned (.plain (OpenSpec.ofChange pickTakesSpec)) pickTakesCard

/-- THE TIED CARD OF 'rebuslaw17.RadixKeys'. -/
def radixKeysCard : Claim7 := { stood := { row := radixKeysRow, standIns := [], harness := (true, "32de9882155891280a700c8ff72a29c2c49efc0f17fa9f5d336374d0588e936e"), looks := false }, kinds := [], alts := [], laidByText := true, laidKinds := [.data], laidTests := true, laidLooks := .later }
def RadixKeysCardSaid : Prop := Claim7.holds Tryd.pinned (.plain (OpenSpec.ofChange radixKeysSpec)) radixKeysCard

/-- THE TIED CARD OF 'rebuslaw17.RadixGrades'. -/
def radixGradesCard : Claim7 := { stood := { row := radixGradesRow, standIns := [], harness := (true, "32de9882155891280a700c8ff72a29c2c49efc0f17fa9f5d336374d0588e936e"), looks := false }, kinds := [], alts := [], laidByText := true, laidKinds := [.data], laidTests := true, laidLooks := .later }
def RadixGradesCardSaid : Prop := Claim7.holds Tryd.pinned (.plain (OpenSpec.ofChange radixGradesSpec)) radixGradesCard

/-- THE TIED CARD OF 'rebuslaw18.MergeSorts'. -/
def mergeSortsCard : Claim7 := { stood := { row := mergeSortsRow, standIns := [], harness := (true, "32de9882155891280a700c8ff72a29c2c49efc0f17fa9f5d336374d0588e936e"), looks := false }, kinds := [], alts := [], laidByText := true, laidKinds := [.data], laidTests := true, laidLooks := .later }
def MergeSortsCardSaid : Prop := Claim7.holds Tryd.pinned (.plain (OpenSpec.ofChange mergeSortsSpec)) mergeSortsCard

/-- THE TIED CARD OF 'rebuslaw15.PickAlong'. -/
def pickAlongCard : Claim7 := { stood := { row := pickAlongRow, standIns := [], harness := (true, "32de9882155891280a700c8ff72a29c2c49efc0f17fa9f5d336374d0588e936e"), looks := false }, kinds := [], alts := [], laidByText := true, laidKinds := [.data], laidTests := true, laidLooks := .later }
def PickAlongCardSaid : Prop := Claim7.holds Tryd.pinned (.plain (OpenSpec.ofChange pickAlongSpec)) pickAlongCard

/-- THE TIED CARD OF 'rebuslaw18.MergeGrades'. -/
def mergeGradesCard : Claim7 := { stood := { row := mergeGradesRow, standIns := [], harness := (true, "32de9882155891280a700c8ff72a29c2c49efc0f17fa9f5d336374d0588e936e"), looks := false }, kinds := [], alts := [], laidByText := true, laidKinds := [.data], laidTests := true, laidLooks := .later }
def MergeGradesCardSaid : Prop := Claim7.holds Tryd.pinned (.plain (OpenSpec.ofChange mergeGradesSpec)) mergeGradesCard

/-- THE TIED CARD OF 'rebuslaw18.MergeOnce'. -/
def mergeOnceCard : Claim7 := { stood := { row := mergeOnceRow, standIns := [], harness := (true, "32de9882155891280a700c8ff72a29c2c49efc0f17fa9f5d336374d0588e936e"), looks := false }, kinds := [], alts := [], laidByText := true, laidKinds := [.data], laidTests := true, laidLooks := .later }
def MergeOnceCardSaid : Prop := Claim7.holds Tryd.pinned (.plain (OpenSpec.ofChange mergeOnceSpec)) mergeOnceCard

/-- THE SECOND FORM's CARD OF 'rebuslaw15.PickCopies'. -/
def pickCopiesUptoCard : Claim7 := { stood := { row := pickCopiesUptoRow, standIns := [], harness := (true, "32de9882155891280a700c8ff72a29c2c49efc0f17fa9f5d336374d0588e936e"), looks := false }, kinds := [], alts := [], laidByText := true, laidKinds := [.data], laidTests := true, laidLooks := .later }
def PickCopiesUptoCardSaid : Prop := Claim7.holds Tryd.pinned (.plain (OpenSpec.upto pickCopiesSpec)) pickCopiesUptoCard

/-- THE SECOND FORM's CARD OF 'rebuslaw17.RadixPasses'. -/
def radixPassesUptoCard : Claim7 := { stood := { row := radixPassesUptoRow, standIns := [], harness := (true, "32de9882155891280a700c8ff72a29c2c49efc0f17fa9f5d336374d0588e936e"), looks := false }, kinds := [], alts := [], laidByText := true, laidKinds := [.data], laidTests := true, laidLooks := .later }
def RadixPassesUptoCardSaid : Prop := Claim7.holds Tryd.pinned (.plain (OpenSpec.upto radixPassesSpec)) radixPassesUptoCard

/-- THE SECOND FORM's CARD OF 'rebuslaw15.PickTakes'. -/
def pickTakesUptoCard : Claim7 := { stood := { row := pickTakesUptoRow, standIns := [], harness := (true, "32de9882155891280a700c8ff72a29c2c49efc0f17fa9f5d336374d0588e936e"), looks := false }, kinds := [], alts := [], laidByText := true, laidKinds := [.data], laidTests := true, laidLooks := .later }
def PickTakesUptoCardSaid : Prop := Claim7.holds Tryd.pinned (.plain (OpenSpec.upto pickTakesSpec)) pickTakesUptoCard

/-- THE SECOND FORM's CARD OF 'rebuslaw17.RadixKeys'. -/
def radixKeysUptoCard : Claim7 := { stood := { row := radixKeysUptoRow, standIns := [], harness := (true, "32de9882155891280a700c8ff72a29c2c49efc0f17fa9f5d336374d0588e936e"), looks := false }, kinds := [], alts := [], laidByText := true, laidKinds := [.data], laidTests := true, laidLooks := .later }
def RadixKeysUptoCardSaid : Prop := Claim7.holds Tryd.pinned (.plain (OpenSpec.upto radixKeysSpec)) radixKeysUptoCard

/-- THE SECOND FORM's CARD OF 'rebuslaw17.RadixGrades'. -/
def radixGradesUptoCard : Claim7 := { stood := { row := radixGradesUptoRow, standIns := [], harness := (true, "32de9882155891280a700c8ff72a29c2c49efc0f17fa9f5d336374d0588e936e"), looks := false }, kinds := [], alts := [], laidByText := true, laidKinds := [.data], laidTests := true, laidLooks := .later }
def RadixGradesUptoCardSaid : Prop := Claim7.holds Tryd.pinned (.plain (OpenSpec.upto radixGradesSpec)) radixGradesUptoCard

/-- THE SECOND FORM's CARD OF 'rebuslaw18.MergeSorts'. -/
def mergeSortsUptoCard : Claim7 := { stood := { row := mergeSortsUptoRow, standIns := [], harness := (true, "32de9882155891280a700c8ff72a29c2c49efc0f17fa9f5d336374d0588e936e"), looks := false }, kinds := [], alts := [], laidByText := true, laidKinds := [.data], laidTests := true, laidLooks := .later }
def MergeSortsUptoCardSaid : Prop := Claim7.holds Tryd.pinned (.plain (OpenSpec.upto mergeSortsSpec)) mergeSortsUptoCard

/-- THE SECOND FORM's CARD OF 'rebuslaw15.PickAlong'. -/
def pickAlongUptoCard : Claim7 := { stood := { row := pickAlongUptoRow, standIns := [], harness := (true, "32de9882155891280a700c8ff72a29c2c49efc0f17fa9f5d336374d0588e936e"), looks := false }, kinds := [], alts := [], laidByText := true, laidKinds := [.data], laidTests := true, laidLooks := .later }
def PickAlongUptoCardSaid : Prop := Claim7.holds Tryd.pinned (.plain (OpenSpec.upto pickAlongSpec)) pickAlongUptoCard

/-- THE SECOND FORM's CARD OF 'rebuslaw18.MergeGrades'. -/
def mergeGradesUptoCard : Claim7 := { stood := { row := mergeGradesUptoRow, standIns := [], harness := (true, "32de9882155891280a700c8ff72a29c2c49efc0f17fa9f5d336374d0588e936e"), looks := false }, kinds := [], alts := [], laidByText := true, laidKinds := [.data], laidTests := true, laidLooks := .later }
def MergeGradesUptoCardSaid : Prop := Claim7.holds Tryd.pinned (.plain (OpenSpec.upto mergeGradesSpec)) mergeGradesUptoCard

/-- THE SECOND FORM's CARD OF 'rebuslaw18.MergeOnce'. -/
def mergeOnceUptoCard : Claim7 := { stood := { row := mergeOnceUptoRow, standIns := [], harness := (true, "32de9882155891280a700c8ff72a29c2c49efc0f17fa9f5d336374d0588e936e"), looks := false }, kinds := [], alts := [], laidByText := true, laidKinds := [.data], laidTests := true, laidLooks := .later }
def MergeOnceUptoCardSaid : Prop := Claim7.holds Tryd.pinned (.plain (OpenSpec.upto mergeOnceSpec)) mergeOnceUptoCard
end Rows
end Go.Proofs.YtmfealaaacmohaaDoor
