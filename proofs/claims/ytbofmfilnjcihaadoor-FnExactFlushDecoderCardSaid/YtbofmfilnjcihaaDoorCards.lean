/-
  DERIVED. GIVEN WITH THE SEED: THE CARDS: each row of YtbofmfilnjcihaaDoorRows.lean that lists a variable, with what it lists TIED to the program's text (the seventh form; the later family's looks); each row that meets fmt, with fmt's text TOLD by the authors' own Lean function (tested against real Go, not proved from fmt's source: count such statements apart). THE CARD IS WHAT COUNTS. Prove the row's statement (the work); the ties are given (YtbofmfilnjcihaaDoorTie.lean); close each card by the builder's one call (the guide's Derived/Test/ToyasCard.lean, 'card_holds'). Laid BY PROGRAM, IN A SANDBOX (cutbox-door.mjs). By AI agents, Wed Nov 11 2026. No macro, syntax, notation, axiom, sorry.
-/
import Derived.Test.YtbofmfilnjcihaaDoorRows
import GoSem.ClaimSeven
namespace Go.Proofs.YtbofmfilnjcihaaDoor
namespace Rows

/-- THE TIED CARD OF 'laws.FnExactIsWhole'. -/
def fnExactIsWholeCard : Claim7 := { stood := { row := fnExactIsWholeRow, standIns := [], harness := (true, "e81dfd15dd209f48634959bc2be3dc665e2e09b05bf2199a2783b09a2c62ca91"), looks := false }, kinds := [], alts := [], laidByText := true, laidKinds := [.data, .pinned], laidTests := true, laidLooks := .later }
def FnExactIsWholeCardSaid : Prop := Claim7.holds Tryd.pinned (.plain (OpenSpec.ofChange fnExactIsWholeSpec)) fnExactIsWholeCard

/-- THE TIED CARD OF 'laws.FnExactRuneAt'. -/
def fnExactRuneAtCard : Claim7 := { stood := { row := fnExactRuneAtRow, standIns := [], harness := (true, "e81dfd15dd209f48634959bc2be3dc665e2e09b05bf2199a2783b09a2c62ca91"), looks := false }, kinds := [], alts := [], laidByText := true, laidKinds := [.data, .pinned], laidTests := true, laidLooks := .later }
def FnExactRuneAtCardSaid : Prop := Claim7.holds Tryd.pinned (.plain (OpenSpec.ofChange fnExactRuneAtSpec)) fnExactRuneAtCard

/-- THE TIED CARD OF 'laws.FnExactGoodDecoder'. -/
def fnExactGoodDecoderCard : Claim7 := { stood := { row := fnExactGoodDecoderRow, standIns := [], harness := (true, "e81dfd15dd209f48634959bc2be3dc665e2e09b05bf2199a2783b09a2c62ca91"), looks := false }, kinds := [], alts := [], laidByText := true, laidKinds := [.data, .pinned], laidTests := true, laidLooks := .later }
def FnExactGoodDecoderCardSaid : Prop := Claim7.holds Tryd.pinned (.plain (OpenSpec.ofChange fnExactGoodDecoderSpec)) fnExactGoodDecoderCard

/-- THE TIED CARD OF 'laws.FnExactGuessCode'. -/
def fnExactGuessCodeCard : Claim7 := { stood := { row := fnExactGuessCodeRow, standIns := [], harness := (true, "e81dfd15dd209f48634959bc2be3dc665e2e09b05bf2199a2783b09a2c62ca91"), looks := false }, kinds := [], alts := [], laidByText := true, laidKinds := [.data, .pinned], laidTests := true, laidLooks := .later }
def FnExactGuessCodeCardSaid : Prop := Claim7.holds Tryd.pinned (.plain (OpenSpec.ofChange fnExactGuessCodeSpec)) fnExactGuessCodeCard

/-- THE TIED CARD OF 'laws.FnExactFlushDecoder'. -/
def fnExactFlushDecoderCard : Claim7 := { stood := { row := fnExactFlushDecoderRow, standIns := [], harness := (true, "e81dfd15dd209f48634959bc2be3dc665e2e09b05bf2199a2783b09a2c62ca91"), looks := false }, kinds := [], alts := [], laidByText := true, laidKinds := [.data, .pinned], laidTests := true, laidLooks := .later }
def FnExactFlushDecoderCardSaid : Prop := Claim7.holds Tryd.pinned (.plain (OpenSpec.ofChange fnExactFlushDecoderSpec)) fnExactFlushDecoderCard

/-- THE SECOND FORM's CARD OF 'laws.FnExactIsWhole'. -/
def fnExactIsWholeUptoCard : Claim7 := { stood := { row := fnExactIsWholeUptoRow, standIns := [], harness := (true, "e81dfd15dd209f48634959bc2be3dc665e2e09b05bf2199a2783b09a2c62ca91"), looks := false }, kinds := [], alts := [], laidByText := true, laidKinds := [.data, .pinned], laidTests := true, laidLooks := .later }
def FnExactIsWholeUptoCardSaid : Prop := Claim7.holds Tryd.pinned (.plain (OpenSpec.upto fnExactIsWholeSpec)) fnExactIsWholeUptoCard

/-- THE SECOND FORM's CARD OF 'laws.FnExactRuneAt'. -/
def fnExactRuneAtUptoCard : Claim7 := { stood := { row := fnExactRuneAtUptoRow, standIns := [], harness := (true, "e81dfd15dd209f48634959bc2be3dc665e2e09b05bf2199a2783b09a2c62ca91"), looks := false }, kinds := [], alts := [], laidByText := true, laidKinds := [.data, .pinned], laidTests := true, laidLooks := .later }
def FnExactRuneAtUptoCardSaid : Prop := Claim7.holds Tryd.pinned (.plain (OpenSpec.upto fnExactRuneAtSpec)) fnExactRuneAtUptoCard

/-- THE SECOND FORM's CARD OF 'laws.FnExactGoodDecoder'. -/
def fnExactGoodDecoderUptoCard : Claim7 := { stood := { row := fnExactGoodDecoderUptoRow, standIns := [], harness := (true, "e81dfd15dd209f48634959bc2be3dc665e2e09b05bf2199a2783b09a2c62ca91"), looks := false }, kinds := [], alts := [], laidByText := true, laidKinds := [.data, .pinned], laidTests := true, laidLooks := .later }
def FnExactGoodDecoderUptoCardSaid : Prop := Claim7.holds Tryd.pinned (.plain (OpenSpec.upto fnExactGoodDecoderSpec)) fnExactGoodDecoderUptoCard

/-- THE SECOND FORM's CARD OF 'laws.FnExactGuessCode'. -/
def fnExactGuessCodeUptoCard : Claim7 := { stood := { row := fnExactGuessCodeUptoRow, standIns := [], harness := (true, "e81dfd15dd209f48634959bc2be3dc665e2e09b05bf2199a2783b09a2c62ca91"), looks := false }, kinds := [], alts := [], laidByText := true, laidKinds := [.data, .pinned], laidTests := true, laidLooks := .later }
def FnExactGuessCodeUptoCardSaid : Prop := Claim7.holds Tryd.pinned (.plain (OpenSpec.upto fnExactGuessCodeSpec)) fnExactGuessCodeUptoCard

/-- THE SECOND FORM's CARD OF 'laws.FnExactFlushDecoder'. -/
def fnExactFlushDecoderUptoCard : Claim7 := { stood := { row := fnExactFlushDecoderUptoRow, standIns := [], harness := (true, "e81dfd15dd209f48634959bc2be3dc665e2e09b05bf2199a2783b09a2c62ca91"), looks := false }, kinds := [], alts := [], laidByText := true, laidKinds := [.data, .pinned], laidTests := true, laidLooks := .later }
def FnExactFlushDecoderUptoCardSaid : Prop := Claim7.holds Tryd.pinned (.plain (OpenSpec.upto fnExactFlushDecoderSpec)) fnExactFlushDecoderUptoCard
end Rows
end Go.Proofs.YtbofmfilnjcihaaDoor
