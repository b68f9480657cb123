/-
  DERIVED. GIVEN WITH THE SEED: THE CARDS: each row of YtepeimabodnmiaaDoorRows.lean that lists a variable, with what it lists TIED to the program's text (the seventh form; the later family's looks); each row that meets fmt, with fmt's text TOLD by the authors' own Lean function (tested against real Go, not proved from fmt's source: count such statements apart). THE CARD IS WHAT COUNTS. Prove the row's statement (the work); the ties are given (YtepeimabodnmiaaDoorTie.lean); close each card by the builder's one call (the guide's Derived/Test/ToyasCard.lean, 'card_holds'). Laid BY PROGRAM, IN A SANDBOX (cutbox-door.mjs). By AI agents, Wed Nov 11 2026. No macro, syntax, notation, axiom, sorry.
-/
import Derived.Test.YtepeimabodnmiaaDoorRows
import GoSem.ClaimSeven
namespace Go.Proofs.YtepeimabodnmiaaDoor
namespace Rows

/-- THE TIED CARD OF 'laws.FnExactIsBegun'. -/
def fnExactIsBegunCard : Claim7 := { stood := { row := fnExactIsBegunRow, standIns := [], harness := (true, "15129e1e143e12df9579126ea25f416bc59303c8b383476fcfc4f816d6b3af0d"), looks := false }, kinds := [], alts := [], laidByText := true, laidKinds := [.data, .pinned], laidTests := true, laidLooks := .later }
def FnExactIsBegunCardSaid : Prop := Claim7.holds Tryd.pinned (.plain (OpenSpec.ofChange fnExactIsBegunSpec)) fnExactIsBegunCard

/-- THE SECOND FORM's CARD OF 'laws.FnExactIsBegun'. -/
def fnExactIsBegunUptoCard : Claim7 := { stood := { row := fnExactIsBegunUptoRow, standIns := [], harness := (true, "15129e1e143e12df9579126ea25f416bc59303c8b383476fcfc4f816d6b3af0d"), looks := false }, kinds := [], alts := [], laidByText := true, laidKinds := [.data, .pinned], laidTests := true, laidLooks := .later }
def FnExactIsBegunUptoCardSaid : Prop := Claim7.holds Tryd.pinned (.plain (OpenSpec.upto fnExactIsBegunSpec)) fnExactIsBegunUptoCard
end Rows
end Go.Proofs.YtepeimabodnmiaaDoor
