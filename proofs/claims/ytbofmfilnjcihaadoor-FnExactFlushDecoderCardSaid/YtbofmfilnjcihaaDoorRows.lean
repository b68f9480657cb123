/-
  NARROWER THAN 'FOR EVERY INPUT', by the rows' own cells (each row's printed sentence says how): FnExactIsWhole: laid · FnExactRuneAt: laid · FnExactGoodDecoder: laid · FnExactGuessCode: laid · FnExactFlushDecoder: laid.
  DERIVED. THE GIVEN ROWS OF THIS SEAT. 5 by the template 'for every input the law returns true; each argument reads behind the call as it read before'; 0 by the template 'total and deterministic' (their statements: YtbofmfilnjcihaaDoorTotals.lean).
  GIVEN WITH THE SEED: the statements are not yours to turn. If you find one false, say at which input.
  Laid BY PROGRAM, IN A SANDBOX (cutbox-rows.mjs): the forced cells as the released guide's own fill.sh prints them over the translation 5445afc46e245f07… (all of the seat's roots in one cut). By AI agents, Wed Nov 11 2026. No macro, syntax, notation, axiom, sorry.
-/
import Derived.Test.YtbofmfilnjcihaaDoorChecked
import GoSem.PinnedTables
import GoSem.Claim
import GoSem.ClaimJoined
import GoSem.ClaimMapViews
import Derived.JoinedTies
import Derived.KernelRfl
namespace Go.Proofs.YtbofmfilnjcihaaDoor
/- THE CELL 'sum', in the pinned program and in every row, IS THE sha256 OF THE DUMP (.gsa) THAT YtbofmfilnjcihaaDoorProg.lean LOADS. Nothing in Lean hashes anything: it is a label: what it is worth is what the hold of that sum in a sandbox is worth. -/
noncomputable def Tryd.pinned : Pinned := { name := "ytbofmfilnjcihaadoor", sum := "5445afc46e245f071d988e525efb98990a245a39ef949f8bf4472e1e4ccac423", checked := Tryd.checked }
namespace Rows
def none {H : Type} : Left H := { results := [], args := [] }

/- WHAT THE LISTED PACKAGE-LEVEL VARIABLES READ AS WHEN THE CALL BEGINS. Each datum BY PROGRAM (the guide's laid-datum.mjs) off the statement by which the dump's own 'gosem.cut.vars' lays the variable. In a bare row this is a premise. The card (YtbofmfilnjcihaaDoorCards.lean) ties it to the program's text. -/
def laid_unicode_utf8_acceptRanges {H : Type} : DataW H := .agg [.agg [.lit (.int .u8 128), .lit (.int .u8 191)], .agg [.lit (.int .u8 160), .lit (.int .u8 191)], .agg [.lit (.int .u8 128), .lit (.int .u8 159)], .agg [.lit (.int .u8 144), .lit (.int .u8 191)], .agg [.lit (.int .u8 128), .lit (.int .u8 143)], .agg [.lit (.int .u8 0), .lit (.int .u8 0)], .agg [.lit (.int .u8 0), .lit (.int .u8 0)], .agg [.lit (.int .u8 0), .lit (.int .u8 0)], .agg [.lit (.int .u8 0), .lit (.int .u8 0)], .agg [.lit (.int .u8 0), .lit (.int .u8 0)], .agg [.lit (.int .u8 0), .lit (.int .u8 0)], .agg [.lit (.int .u8 0), .lit (.int .u8 0)], .agg [.lit (.int .u8 0), .lit (.int .u8 0)], .agg [.lit (.int .u8 0), .lit (.int .u8 0)], .agg [.lit (.int .u8 0), .lit (.int .u8 0)], .agg [.lit (.int .u8 0), .lit (.int .u8 0)]]
/-- One of Go's own tables, pinned by name: the form's constant. -/
def laid_unicode_utf8_first : DataW Unit := Go.Pinned.utf8First

/-- 'laws.FnExactIsWhole': WHATEVER THE INPUT: true; the input reads as it did. -/
def fnExactIsWholeSpec : ChangeSpec := { name := "fnExactIsWhole", fn := fun _ => fun
  | [d] => { results := [.lit (.bool true)], args := [d] }
  | _ => none }
def fnExactIsWholeRow : OpenClaim := { program := "ytbofmfilnjcihaadoor", sum := "5445afc46e245f071d988e525efb98990a245a39ef949f8bf4472e1e4ccac423", func := "loop.example/g00692/laws.FnExactIsWhole", spec := "fnExactIsWhole", named := ["unicode/utf8.first", "unicode/utf8.acceptRanges"], apart := false, laid := [("unicode/utf8.acceptRanges", laid_unicode_utf8_acceptRanges), ("unicode/utf8.first", laid_unicode_utf8_first)] }
def FnExactIsWholeSaid : Prop := fnExactIsWholeRow.holds Tryd.pinned (OpenSpec.ofChange fnExactIsWholeSpec)

/-- ITS FALSE NEIGHBOUR: 'it returns false'. Refute it at one input. -/
def fnExactIsWholeWrong : ChangeSpec := { name := "fnExactIsWhole", fn := fun _ => fun
  | [d] => { results := [.lit (.bool false)], args := [d] }
  | _ => none }
def FnExactIsWholeWrongFalsely : Prop := fnExactIsWholeRow.holds Tryd.pinned (OpenSpec.ofChange fnExactIsWholeWrong)

/-- 'laws.FnExactRuneAt': WHATEVER THE INPUT: true; the input reads as it did. -/
def fnExactRuneAtSpec : ChangeSpec := { name := "fnExactRuneAt", fn := fun _ => fun
  | [d1, d2] => { results := [.lit (.bool true)], args := [d1, d2] }
  | _ => none }
def fnExactRuneAtRow : OpenClaim := { program := "ytbofmfilnjcihaadoor", sum := "5445afc46e245f071d988e525efb98990a245a39ef949f8bf4472e1e4ccac423", func := "loop.example/g00692/laws.FnExactRuneAt", spec := "fnExactRuneAt", named := ["unicode/utf8.first", "unicode/utf8.acceptRanges"], apart := false, laid := [("unicode/utf8.acceptRanges", laid_unicode_utf8_acceptRanges), ("unicode/utf8.first", laid_unicode_utf8_first)] }
def FnExactRuneAtSaid : Prop := fnExactRuneAtRow.holds Tryd.pinned (OpenSpec.ofChange fnExactRuneAtSpec)

/-- ITS FALSE NEIGHBOUR: 'it returns false'. Refute it at one input. -/
def fnExactRuneAtWrong : ChangeSpec := { name := "fnExactRuneAt", fn := fun _ => fun
  | [d1, d2] => { results := [.lit (.bool false)], args := [d1, d2] }
  | _ => none }
def FnExactRuneAtWrongFalsely : Prop := fnExactRuneAtRow.holds Tryd.pinned (OpenSpec.ofChange fnExactRuneAtWrong)

/-- 'laws.FnExactGoodDecoder': WHATEVER THE INPUT: true; the input reads as it did. -/
def fnExactGoodDecoderSpec : ChangeSpec := { name := "fnExactGoodDecoder", fn := fun _ => fun
  | [d] => { results := [.lit (.bool true)], args := [d] }
  | _ => none }
def fnExactGoodDecoderRow : OpenClaim := { program := "ytbofmfilnjcihaadoor", sum := "5445afc46e245f071d988e525efb98990a245a39ef949f8bf4472e1e4ccac423", func := "loop.example/g00692/laws.FnExactGoodDecoder", spec := "fnExactGoodDecoder", named := ["unicode/utf8.first", "unicode/utf8.acceptRanges"], apart := false, laid := [("unicode/utf8.acceptRanges", laid_unicode_utf8_acceptRanges), ("unicode/utf8.first", laid_unicode_utf8_first)] }
def FnExactGoodDecoderSaid : Prop := fnExactGoodDecoderRow.holds Tryd.pinned (OpenSpec.ofChange fnExactGoodDecoderSpec)

/-- ITS FALSE NEIGHBOUR: 'it returns false'. Refute it at one input. -/
def fnExactGoodDecoderWrong : ChangeSpec := { name := "fnExactGoodDecoder", fn := fun _ => fun
  | [d] => { results := [.lit (.bool false)], args := [d] }
  | _ => none }
def FnExactGoodDecoderWrongFalsely : Prop := fnExactGoodDecoderRow.holds Tryd.pinned (OpenSpec.ofChange fnExactGoodDecoderWrong)

/-- 'laws.FnExactGuessCode': WHATEVER THE INPUT: true; the input reads as it did. -/
def fnExactGuessCodeSpec : ChangeSpec := { name := "fnExactGuessCode", fn := fun _ => fun
  | [d] => { results := [.lit (.bool true)], args := [d] }
  | _ => none }
def fnExactGuessCodeRow : OpenClaim := { program := "ytbofmfilnjcihaadoor", sum := "5445afc46e245f071d988e525efb98990a245a39ef949f8bf4472e1e4ccac423", func := "loop.example/g00692/laws.FnExactGuessCode", spec := "fnExactGuessCode", named := ["unicode/utf8.first", "unicode/utf8.acceptRanges"], apart := false, laid := [("unicode/utf8.acceptRanges", laid_unicode_utf8_acceptRanges), ("unicode/utf8.first", laid_unicode_utf8_first)] }
def FnExactGuessCodeSaid : Prop := fnExactGuessCodeRow.holds Tryd.pinned (OpenSpec.ofChange fnExactGuessCodeSpec)

/-- ITS FALSE NEIGHBOUR: 'it returns false'. Refute it at one input. -/
def fnExactGuessCodeWrong : ChangeSpec := { name := "fnExactGuessCode", fn := fun _ => fun
  | [d] => { results := [.lit (.bool false)], args := [d] }
  | _ => none }
def FnExactGuessCodeWrongFalsely : Prop := fnExactGuessCodeRow.holds Tryd.pinned (OpenSpec.ofChange fnExactGuessCodeWrong)

/-- 'laws.FnExactFlushDecoder': WHATEVER THE INPUT: true; the input reads as it did. -/
def fnExactFlushDecoderSpec : ChangeSpec := { name := "fnExactFlushDecoder", fn := fun _ => fun
  | [d] => { results := [.lit (.bool true)], args := [d] }
  | _ => none }
def fnExactFlushDecoderRow : OpenClaim := { program := "ytbofmfilnjcihaadoor", sum := "5445afc46e245f071d988e525efb98990a245a39ef949f8bf4472e1e4ccac423", func := "loop.example/g00692/laws.FnExactFlushDecoder", spec := "fnExactFlushDecoder", named := ["unicode/utf8.first", "unicode/utf8.acceptRanges"], apart := false, laid := [("unicode/utf8.acceptRanges", laid_unicode_utf8_acceptRanges), ("unicode/utf8.first", laid_unicode_utf8_first)] }
def FnExactFlushDecoderSaid : Prop := fnExactFlushDecoderRow.holds Tryd.pinned (OpenSpec.ofChange fnExactFlushDecoderSpec)

/-- ITS FALSE NEIGHBOUR: 'it returns false'. Refute it at one input. -/
def fnExactFlushDecoderWrong : ChangeSpec := { name := "fnExactFlushDecoder", fn := fun _ => fun
  | [d] => { results := [.lit (.bool false)], args := [d] }
  | _ => none }
def FnExactFlushDecoderWrongFalsely : Prop := fnExactFlushDecoderRow.holds Tryd.pinned (OpenSpec.ofChange fnExactFlushDecoderWrong)

/- THE SECOND FORM. 'bulk': how many values and letters a reading holds, each counted each time it is reached (what is shared counts as often as it is met; a slice's spare places count too). A statement '..UptoSaid' is the law's where the arguments, and the package variables that the reading takes, are together of bulk at most 1048576: NARROWER than '..Said'. Prove '..Said' where nothing that the law and all that it calls make is longer than what came in: it says more and counts as full. Else prove '..UptoSaid'. A law counts once. -/
mutual
def uptoBulk {H : Type} : DataW H → Nat
  | .lit (.string bytes) => bytes.length + 1
  | .lit _ => 1
  | .nil => 1
  | .ptr d => uptoBulk d + 1
  | .slice elems spare => uptoBulkAll elems + uptoBulkAll spare + 1
  | .agg parts => uptoBulkAll parts + 1
  | .iface _ d => uptoBulk d + 1
  | .map entries => uptoBulkEntries entries + 1
  | .held _ => 1
def uptoBulkAll {H : Type} : List (DataW H) → Nat
  | [] => 0
  | d :: r => uptoBulk d + uptoBulkAll r
def uptoBulkEntries {H : Type} : List (Lit × DataW H) → Nat
  | [] => 0
  | x :: r => uptoBulkEntry x + uptoBulkEntries r
def uptoBulkEntry {H : Type} : Lit × DataW H → Nat
  | (.string bytes, d) => bytes.length + uptoBulk d + 1
  | (_, d) => uptoBulk d + 1
 end
def uptoSmall : (H : Type) → List (DataW H) → Bool := fun _ ds => decide (uptoBulkAll ds ≤ 1048576)
def OpenSpec.upto (s : _root_.Go.ChangeSpec) : _root_.Go.OpenSpec := { _root_.Go.OpenSpec.ofChange s with cond := some uptoSmall }

/-- 'laws.FnExactIsWhole', WHERE WHAT IT READS IS OF BULK AT MOST 1048576: true; the input reads as it did. -/
def fnExactIsWholeUptoRow : OpenClaim := { program := "ytbofmfilnjcihaadoor", sum := "5445afc46e245f071d988e525efb98990a245a39ef949f8bf4472e1e4ccac423", func := "loop.example/g00692/laws.FnExactIsWhole", spec := "fnExactIsWhole", named := ["unicode/utf8.first", "unicode/utf8.acceptRanges"], apart := false, laid := [("unicode/utf8.acceptRanges", laid_unicode_utf8_acceptRanges), ("unicode/utf8.first", laid_unicode_utf8_first)], narrowed := true }
def FnExactIsWholeUptoSaid : Prop := fnExactIsWholeUptoRow.holds Tryd.pinned (OpenSpec.upto fnExactIsWholeSpec)

/-- 'laws.FnExactRuneAt', WHERE WHAT IT READS IS OF BULK AT MOST 1048576: true; the input reads as it did. -/
def fnExactRuneAtUptoRow : OpenClaim := { program := "ytbofmfilnjcihaadoor", sum := "5445afc46e245f071d988e525efb98990a245a39ef949f8bf4472e1e4ccac423", func := "loop.example/g00692/laws.FnExactRuneAt", spec := "fnExactRuneAt", named := ["unicode/utf8.first", "unicode/utf8.acceptRanges"], apart := false, laid := [("unicode/utf8.acceptRanges", laid_unicode_utf8_acceptRanges), ("unicode/utf8.first", laid_unicode_utf8_first)], narrowed := true }
def FnExactRuneAtUptoSaid : Prop := fnExactRuneAtUptoRow.holds Tryd.pinned (OpenSpec.upto fnExactRuneAtSpec)

/-- 'laws.FnExactGoodDecoder', WHERE WHAT IT READS IS OF BULK AT MOST 1048576: true; the input reads as it did. -/
def fnExactGoodDecoderUptoRow : OpenClaim := { program := "ytbofmfilnjcihaadoor", sum := "5445afc46e245f071d988e525efb98990a245a39ef949f8bf4472e1e4ccac423", func := "loop.example/g00692/laws.FnExactGoodDecoder", spec := "fnExactGoodDecoder", named := ["unicode/utf8.first", "unicode/utf8.acceptRanges"], apart := false, laid := [("unicode/utf8.acceptRanges", laid_unicode_utf8_acceptRanges), ("unicode/utf8.first", laid_unicode_utf8_first)], narrowed := true }
def FnExactGoodDecoderUptoSaid : Prop := fnExactGoodDecoderUptoRow.holds Tryd.pinned (OpenSpec.upto fnExactGoodDecoderSpec)

/-- 'laws.FnExactGuessCode', WHERE WHAT IT READS IS OF BULK AT MOST 1048576: true; the input reads as it did. -/
def fnExactGuessCodeUptoRow : OpenClaim := { program := "ytbofmfilnjcihaadoor", sum := "5445afc46e245f071d988e525efb98990a245a39ef949f8bf4472e1e4ccac423", func := "loop.example/g00692/laws.FnExactGuessCode", spec := "fnExactGuessCode", named := ["unicode/utf8.first", "unicode/utf8.acceptRanges"], apart := false, laid := [("unicode/utf8.acceptRanges", laid_unicode_utf8_acceptRanges), ("unicode/utf8.first", laid_unicode_utf8_first)], narrowed := true }
def FnExactGuessCodeUptoSaid : Prop := fnExactGuessCodeUptoRow.holds Tryd.pinned (OpenSpec.upto fnExactGuessCodeSpec)

/-- 'laws.FnExactFlushDecoder', WHERE WHAT IT READS IS OF BULK AT MOST 1048576: true; the input reads as it did. -/
def fnExactFlushDecoderUptoRow : OpenClaim := { program := "ytbofmfilnjcihaadoor", sum := "5445afc46e245f071d988e525efb98990a245a39ef949f8bf4472e1e4ccac423", func := "loop.example/g00692/laws.FnExactFlushDecoder", spec := "fnExactFlushDecoder", named := ["unicode/utf8.first", "unicode/utf8.acceptRanges"], apart := false, laid := [("unicode/utf8.acceptRanges", laid_unicode_utf8_acceptRanges), ("unicode/utf8.first", laid_unicode_utf8_first)], narrowed := true }
def FnExactFlushDecoderUptoSaid : Prop := fnExactFlushDecoderUptoRow.holds Tryd.pinned (OpenSpec.upto fnExactFlushDecoderSpec)

end Rows
end Go.Proofs.YtbofmfilnjcihaaDoor
