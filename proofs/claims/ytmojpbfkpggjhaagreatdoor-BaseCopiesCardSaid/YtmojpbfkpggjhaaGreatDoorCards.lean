/-
  DERIVED. GIVEN WITH THE SEED: THE CARDS: each row of YtmojpbfkpggjhaaGreatDoorRows.lean that lists a variable, with what it lists TIED to the program's text (the seventh form; the later family's looks); each row that meets fmt, with fmt's text TOLD by the authors' own Lean function (tested against real Go, not proved from fmt's source: count such statements apart). THE CARD IS WHAT COUNTS. Prove the row's statement (the work); the ties are given (YtmojpbfkpggjhaaGreatDoorTie.lean); close each card by the builder's one call (the guide's Derived/Test/ToyasCard.lean, 'card_holds'). Laid BY PROGRAM, IN A SANDBOX (cutbox-door.mjs). By AI agents, Wed Nov 11 2026. No macro, syntax, notation, axiom, sorry.
-/
import Derived.Test.YtmojpbfkpggjhaaGreatDoorRows
import GoSem.ClaimSeven
namespace Go.Proofs.YtmojpbfkpggjhaaGreatDoor
namespace Rows

/-- THE TIED CARD OF 'rebuslaw27.BaseCopies'. -/
def baseCopiesCard : Claim7 := { stood := { row := baseCopiesRow, standIns := [], harness := (true, "afb602516084c17f6a46f064b9043a605789fa6bf77d18fd6d892c81b3d62113"), looks := false }, kinds := [], alts := [], laidByText := true, laidKinds := [.data], laidTests := true, laidLooks := .later }
def BaseCopiesCardSaid : Prop := Claim7.holds Tryz.pinned (.plain (OpenSpec.ofChange baseCopiesSpec)) baseCopiesCard

/-- THE TIED CARD OF 'rebuslaw27.BaseCounts'. -/
def baseCountsCard : Claim7 := { stood := { row := baseCountsRow, standIns := [], harness := (true, "afb602516084c17f6a46f064b9043a605789fa6bf77d18fd6d892c81b3d62113"), looks := false }, kinds := [], alts := [], laidByText := true, laidKinds := [.data], laidTests := true, laidLooks := .later }
def BaseCountsCardSaid : Prop := Claim7.holds Tryz.pinned (.plain (OpenSpec.ofChange baseCountsSpec)) baseCountsCard

/-- THE TIED CARD OF 'rebuslaw27.BaseFinds'. -/
def baseFindsCard : Claim7 := { stood := { row := baseFindsRow, standIns := [], harness := (true, "afb602516084c17f6a46f064b9043a605789fa6bf77d18fd6d892c81b3d62113"), looks := false }, kinds := [], alts := [], laidByText := true, laidKinds := [.data], laidTests := true, laidLooks := .later }
def BaseFindsCardSaid : Prop := Claim7.holds Tryz.pinned (.plain (OpenSpec.ofChange baseFindsSpec)) baseFindsCard

/-- THE TIED CARD OF 'rebuslaw27.BaseSets'. -/
def baseSetsCard : Claim7 := { stood := { row := baseSetsRow, standIns := [], harness := (true, "afb602516084c17f6a46f064b9043a605789fa6bf77d18fd6d892c81b3d62113"), looks := false }, kinds := [], alts := [], laidByText := true, laidKinds := [.data], laidTests := true, laidLooks := .later }
def BaseSetsCardSaid : Prop := Claim7.holds Tryz.pinned (.plain (OpenSpec.ofChange baseSetsSpec)) baseSetsCard

/-- THE TIED CARD OF 'rebuslaw27.BaseGrades'. -/
def baseGradesCard : Claim7 := { stood := { row := baseGradesRow, standIns := [], harness := (true, "afb602516084c17f6a46f064b9043a605789fa6bf77d18fd6d892c81b3d62113"), looks := false }, kinds := [], alts := [], laidByText := true, laidKinds := [.data], laidTests := true, laidLooks := .later }
def BaseGradesCardSaid : Prop := Claim7.holds Tryz.pinned (.plain (OpenSpec.ofChange baseGradesSpec)) baseGradesCard

/-- THE SECOND FORM's CARD OF 'rebuslaw27.BaseCopies'. -/
def baseCopiesUptoCard : Claim7 := { stood := { row := baseCopiesUptoRow, standIns := [], harness := (true, "afb602516084c17f6a46f064b9043a605789fa6bf77d18fd6d892c81b3d62113"), looks := false }, kinds := [], alts := [], laidByText := true, laidKinds := [.data], laidTests := true, laidLooks := .later }
def BaseCopiesUptoCardSaid : Prop := Claim7.holds Tryz.pinned (.plain (OpenSpec.upto baseCopiesSpec)) baseCopiesUptoCard

/-- THE SECOND FORM's CARD OF 'rebuslaw27.BaseCounts'. -/
def baseCountsUptoCard : Claim7 := { stood := { row := baseCountsUptoRow, standIns := [], harness := (true, "afb602516084c17f6a46f064b9043a605789fa6bf77d18fd6d892c81b3d62113"), looks := false }, kinds := [], alts := [], laidByText := true, laidKinds := [.data], laidTests := true, laidLooks := .later }
def BaseCountsUptoCardSaid : Prop := Claim7.holds Tryz.pinned (.plain (OpenSpec.upto baseCountsSpec)) baseCountsUptoCard

/-- THE SECOND FORM's CARD OF 'rebuslaw27.BaseFinds'. -/
def baseFindsUptoCard : Claim7 := { stood := { row := baseFindsUptoRow, standIns := [], harness := (true, "afb602516084c17f6a46f064b9043a605789fa6bf77d18fd6d892c81b3d62113"), looks := false }, kinds := [], alts := [], laidByText := true, laidKinds := [.data], laidTests := true, laidLooks := .later }
def BaseFindsUptoCardSaid : Prop := Claim7.holds Tryz.pinned (.plain (OpenSpec.upto baseFindsSpec)) baseFindsUptoCard

/-- THE SECOND FORM's CARD OF 'rebuslaw27.BaseSets'. -/
def baseSetsUptoCard : Claim7 := { stood := { row := baseSetsUptoRow, standIns := [], harness := (true, "afb602516084c17f6a46f064b9043a605789fa6bf77d18fd6d892c81b3d62113"), looks := false }, kinds := [], alts := [], laidByText := true, laidKinds := [.data], laidTests := true, laidLooks := .later }
def BaseSetsUptoCardSaid : Prop := Claim7.holds Tryz.pinned (.plain (OpenSpec.upto baseSetsSpec)) baseSetsUptoCard

/-- THE SECOND FORM's CARD OF 'rebuslaw27.BaseGrades'. -/
def baseGradesUptoCard : Claim7 := { stood := { row := baseGradesUptoRow, standIns := [], harness := (true, "afb602516084c17f6a46f064b9043a605789fa6bf77d18fd6d892c81b3d62113"), looks := false }, kinds := [], alts := [], laidByText := true, laidKinds := [.data], laidTests := true, laidLooks := .later }
def BaseGradesUptoCardSaid : Prop := Claim7.holds Tryz.pinned (.plain (OpenSpec.upto baseGradesSpec)) baseGradesUptoCard
end Rows
end Go.Proofs.YtmojpbfkpggjhaaGreatDoor
