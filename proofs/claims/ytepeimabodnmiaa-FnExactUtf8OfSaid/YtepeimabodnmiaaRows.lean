/-
  No cell of these rows narrows 'for every input' (looked for: loops, veiled, ifaces, maps, wideKeys, modest, calm, conditions, laid).
  DERIVED. THE GIVEN ROWS OF THIS SEAT. 11 by the template 'for every input the law returns true; each argument reads behind the call as it read before'; 0 by the template 'total and deterministic' (their statements: YtepeimabodnmiaaTotals.lean).
  GIVEN WITH THE SEED: the statements are not yours to turn. If you find one false, say at which input.
  Laid BY PROGRAM, IN A SANDBOX (cutbox-rows.mjs): the forced cells as the released guide's own fill.sh prints them over the translation 4970883818f5589c… (all of the seat's roots in one cut). By AI agents, Wed Nov 11 2026. No macro, syntax, notation, axiom, sorry.
-/
import Derived.Test.YtepeimabodnmiaaChecked
import GoSem.Claim
import GoSem.ClaimJoined
import GoSem.ClaimMapViews
import Derived.JoinedTies
import Derived.KernelRfl
namespace Go.Proofs.Ytepeimabodnmiaa
/- THE CELL 'sum', in the pinned program and in every row, IS THE sha256 OF THE DUMP (.gsa) THAT YtepeimabodnmiaaProg.lean LOADS. Nothing in Lean hashes anything: it is a label: what it is worth is what the hold of that sum in a sandbox is worth. -/
noncomputable def Try.pinned : Pinned := { name := "ytepeimabodnmiaa", sum := "4970883818f5589c658dfd3044c196a4f984b90c8b66ac801749ef21723a447e", checked := Try.checked }
namespace Rows
def none {H : Type} : Left H := { results := [], args := [] }

/-- 'laws.FnExactConstants': WHATEVER THE INPUT: true; the input reads as it did. -/
def fnExactConstantsSpec : ChangeSpec := { name := "fnExactConstants", fn := fun _ => fun
  | [] => { results := [.lit (.bool true)], args := [] }
  | _ => none }
def fnExactConstantsRow : OpenClaim := { program := "ytepeimabodnmiaa", sum := "4970883818f5589c658dfd3044c196a4f984b90c8b66ac801749ef21723a447e", func := "loop.example/g00692/laws.FnExactConstants", spec := "fnExactConstants", apart := false }
def FnExactConstantsSaid : Prop := fnExactConstantsRow.holds Try.pinned (OpenSpec.ofChange fnExactConstantsSpec)

/-- ITS FALSE NEIGHBOUR: 'it returns false'. Refute it at one input. -/
def fnExactConstantsWrong : ChangeSpec := { name := "fnExactConstants", fn := fun _ => fun
  | [] => { results := [.lit (.bool false)], args := [] }
  | _ => none }
def FnExactConstantsWrongFalsely : Prop := fnExactConstantsRow.holds Try.pinned (OpenSpec.ofChange fnExactConstantsWrong)

/-- 'laws.FnExactGoodRune': WHATEVER THE INPUT: true; the input reads as it did. -/
def fnExactGoodRuneSpec : ChangeSpec := { name := "fnExactGoodRune", fn := fun _ => fun
  | [d] => { results := [.lit (.bool true)], args := [d] }
  | _ => none }
def fnExactGoodRuneRow : OpenClaim := { program := "ytepeimabodnmiaa", sum := "4970883818f5589c658dfd3044c196a4f984b90c8b66ac801749ef21723a447e", func := "loop.example/g00692/laws.FnExactGoodRune", spec := "fnExactGoodRune", apart := false }
def FnExactGoodRuneSaid : Prop := fnExactGoodRuneRow.holds Try.pinned (OpenSpec.ofChange fnExactGoodRuneSpec)

/-- ITS FALSE NEIGHBOUR: 'it returns false'. Refute it at one input. -/
def fnExactGoodRuneWrong : ChangeSpec := { name := "fnExactGoodRune", fn := fun _ => fun
  | [d] => { results := [.lit (.bool false)], args := [d] }
  | _ => none }
def FnExactGoodRuneWrongFalsely : Prop := fnExactGoodRuneRow.holds Try.pinned (OpenSpec.ofChange fnExactGoodRuneWrong)

/-- 'laws.FnExactFoldRune': WHATEVER THE INPUT: true; the input reads as it did. -/
def fnExactFoldRuneSpec : ChangeSpec := { name := "fnExactFoldRune", fn := fun _ => fun
  | [d] => { results := [.lit (.bool true)], args := [d] }
  | _ => none }
def fnExactFoldRuneRow : OpenClaim := { program := "ytepeimabodnmiaa", sum := "4970883818f5589c658dfd3044c196a4f984b90c8b66ac801749ef21723a447e", func := "loop.example/g00692/laws.FnExactFoldRune", spec := "fnExactFoldRune", apart := false }
def FnExactFoldRuneSaid : Prop := fnExactFoldRuneRow.holds Try.pinned (OpenSpec.ofChange fnExactFoldRuneSpec)

/-- ITS FALSE NEIGHBOUR: 'it returns false'. Refute it at one input. -/
def fnExactFoldRuneWrong : ChangeSpec := { name := "fnExactFoldRune", fn := fun _ => fun
  | [d] => { results := [.lit (.bool false)], args := [d] }
  | _ => none }
def FnExactFoldRuneWrongFalsely : Prop := fnExactFoldRuneRow.holds Try.pinned (OpenSpec.ofChange fnExactFoldRuneWrong)

/-- 'laws.FnExactUtf8Of': WHATEVER THE INPUT: true; the input reads as it did. -/
def fnExactUtf8OfSpec : ChangeSpec := { name := "fnExactUtf8Of", fn := fun _ => fun
  | [d] => { results := [.lit (.bool true)], args := [d] }
  | _ => none }
def fnExactUtf8OfRow : OpenClaim := { program := "ytepeimabodnmiaa", sum := "4970883818f5589c658dfd3044c196a4f984b90c8b66ac801749ef21723a447e", func := "loop.example/g00692/laws.FnExactUtf8Of", spec := "fnExactUtf8Of", apart := false }
def FnExactUtf8OfSaid : Prop := fnExactUtf8OfRow.holds Try.pinned (OpenSpec.ofChange fnExactUtf8OfSpec)

/-- ITS FALSE NEIGHBOUR: 'it returns false'. Refute it at one input. -/
def fnExactUtf8OfWrong : ChangeSpec := { name := "fnExactUtf8Of", fn := fun _ => fun
  | [d] => { results := [.lit (.bool false)], args := [d] }
  | _ => none }
def FnExactUtf8OfWrongFalsely : Prop := fnExactUtf8OfRow.holds Try.pinned (OpenSpec.ofChange fnExactUtf8OfWrong)

/-- 'laws.FnExactOrderOf': WHATEVER THE INPUT: true; the input reads as it did. -/
def fnExactOrderOfSpec : ChangeSpec := { name := "fnExactOrderOf", fn := fun _ => fun
  | [d] => { results := [.lit (.bool true)], args := [d] }
  | _ => none }
def fnExactOrderOfRow : OpenClaim := { program := "ytepeimabodnmiaa", sum := "4970883818f5589c658dfd3044c196a4f984b90c8b66ac801749ef21723a447e", func := "loop.example/g00692/laws.FnExactOrderOf", spec := "fnExactOrderOf", apart := false }
def FnExactOrderOfSaid : Prop := fnExactOrderOfRow.holds Try.pinned (OpenSpec.ofChange fnExactOrderOfSpec)

/-- ITS FALSE NEIGHBOUR: 'it returns false'. Refute it at one input. -/
def fnExactOrderOfWrong : ChangeSpec := { name := "fnExactOrderOf", fn := fun _ => fun
  | [d] => { results := [.lit (.bool false)], args := [d] }
  | _ => none }
def FnExactOrderOfWrongFalsely : Prop := fnExactOrderOfRow.holds Try.pinned (OpenSpec.ofChange fnExactOrderOfWrong)

/-- 'laws.FnExactNewDecoder': WHATEVER THE INPUT: true; the input reads as it did. -/
def fnExactNewDecoderSpec : ChangeSpec := { name := "fnExactNewDecoder", fn := fun _ => fun
  | [d] => { results := [.lit (.bool true)], args := [d] }
  | _ => none }
def fnExactNewDecoderRow : OpenClaim := { program := "ytepeimabodnmiaa", sum := "4970883818f5589c658dfd3044c196a4f984b90c8b66ac801749ef21723a447e", func := "loop.example/g00692/laws.FnExactNewDecoder", spec := "fnExactNewDecoder", apart := false }
def FnExactNewDecoderSaid : Prop := fnExactNewDecoderRow.holds Try.pinned (OpenSpec.ofChange fnExactNewDecoderSpec)

/-- ITS FALSE NEIGHBOUR: 'it returns false'. Refute it at one input. -/
def fnExactNewDecoderWrong : ChangeSpec := { name := "fnExactNewDecoder", fn := fun _ => fun
  | [d] => { results := [.lit (.bool false)], args := [d] }
  | _ => none }
def FnExactNewDecoderWrongFalsely : Prop := fnExactNewDecoderRow.holds Try.pinned (OpenSpec.ofChange fnExactNewDecoderWrong)

/-- 'laws.FnExactGoodSet': WHATEVER THE INPUT: true; the input reads as it did. -/
def fnExactGoodSetSpec : ChangeSpec := { name := "fnExactGoodSet", fn := fun _ => fun
  | [d] => { results := [.lit (.bool true)], args := [d] }
  | _ => none }
def fnExactGoodSetRow : OpenClaim := { program := "ytepeimabodnmiaa", sum := "4970883818f5589c658dfd3044c196a4f984b90c8b66ac801749ef21723a447e", func := "loop.example/g00692/laws.FnExactGoodSet", spec := "fnExactGoodSet", apart := false }
def FnExactGoodSetSaid : Prop := fnExactGoodSetRow.holds Try.pinned (OpenSpec.ofChange fnExactGoodSetSpec)

/-- ITS FALSE NEIGHBOUR: 'it returns false'. Refute it at one input. -/
def fnExactGoodSetWrong : ChangeSpec := { name := "fnExactGoodSet", fn := fun _ => fun
  | [d] => { results := [.lit (.bool false)], args := [d] }
  | _ => none }
def FnExactGoodSetWrongFalsely : Prop := fnExactGoodSetRow.holds Try.pinned (OpenSpec.ofChange fnExactGoodSetWrong)

/-- 'laws.FnExactCountSet': WHATEVER THE INPUT: true; the input reads as it did. -/
def fnExactCountSetSpec : ChangeSpec := { name := "fnExactCountSet", fn := fun _ => fun
  | [d] => { results := [.lit (.bool true)], args := [d] }
  | _ => none }
def fnExactCountSetRow : OpenClaim := { program := "ytepeimabodnmiaa", sum := "4970883818f5589c658dfd3044c196a4f984b90c8b66ac801749ef21723a447e", func := "loop.example/g00692/laws.FnExactCountSet", spec := "fnExactCountSet", apart := false }
def FnExactCountSetSaid : Prop := fnExactCountSetRow.holds Try.pinned (OpenSpec.ofChange fnExactCountSetSpec)

/-- ITS FALSE NEIGHBOUR: 'it returns false'. Refute it at one input. -/
def fnExactCountSetWrong : ChangeSpec := { name := "fnExactCountSet", fn := fun _ => fun
  | [d] => { results := [.lit (.bool false)], args := [d] }
  | _ => none }
def FnExactCountSetWrongFalsely : Prop := fnExactCountSetRow.holds Try.pinned (OpenSpec.ofChange fnExactCountSetWrong)

/-- 'laws.FnExactSplitRune': WHATEVER THE INPUT: true; the input reads as it did. -/
def fnExactSplitRuneSpec : ChangeSpec := { name := "fnExactSplitRune", fn := fun _ => fun
  | [d] => { results := [.lit (.bool true)], args := [d] }
  | _ => none }
def fnExactSplitRuneRow : OpenClaim := { program := "ytepeimabodnmiaa", sum := "4970883818f5589c658dfd3044c196a4f984b90c8b66ac801749ef21723a447e", func := "loop.example/g00692/laws.FnExactSplitRune", spec := "fnExactSplitRune", apart := false }
def FnExactSplitRuneSaid : Prop := fnExactSplitRuneRow.holds Try.pinned (OpenSpec.ofChange fnExactSplitRuneSpec)

/-- ITS FALSE NEIGHBOUR: 'it returns false'. Refute it at one input. -/
def fnExactSplitRuneWrong : ChangeSpec := { name := "fnExactSplitRune", fn := fun _ => fun
  | [d] => { results := [.lit (.bool false)], args := [d] }
  | _ => none }
def FnExactSplitRuneWrongFalsely : Prop := fnExactSplitRuneRow.holds Try.pinned (OpenSpec.ofChange fnExactSplitRuneWrong)

/-- 'laws.FnExactInSet': WHATEVER THE INPUT: true; the input reads as it did. -/
def fnExactInSetSpec : ChangeSpec := { name := "fnExactInSet", fn := fun _ => fun
  | [d1, d2] => { results := [.lit (.bool true)], args := [d1, d2] }
  | _ => none }
def fnExactInSetRow : OpenClaim := { program := "ytepeimabodnmiaa", sum := "4970883818f5589c658dfd3044c196a4f984b90c8b66ac801749ef21723a447e", func := "loop.example/g00692/laws.FnExactInSet", spec := "fnExactInSet", unfollowed := true, recurses := true, apart := false }
def FnExactInSetSaid : Prop := fnExactInSetRow.holds Try.pinned (OpenSpec.ofChange fnExactInSetSpec)

/-- ITS FALSE NEIGHBOUR: 'it returns false'. Refute it at one input. -/
def fnExactInSetWrong : ChangeSpec := { name := "fnExactInSet", fn := fun _ => fun
  | [d1, d2] => { results := [.lit (.bool false)], args := [d1, d2] }
  | _ => none }
def FnExactInSetWrongFalsely : Prop := fnExactInSetRow.holds Try.pinned (OpenSpec.ofChange fnExactInSetWrong)

/-- 'laws.FnExactNotSet': WHATEVER THE INPUT: true; the input reads as it did. -/
def fnExactNotSetSpec : ChangeSpec := { name := "fnExactNotSet", fn := fun _ => fun
  | [d] => { results := [.lit (.bool true)], args := [d] }
  | _ => none }
def fnExactNotSetRow : OpenClaim := { program := "ytepeimabodnmiaa", sum := "4970883818f5589c658dfd3044c196a4f984b90c8b66ac801749ef21723a447e", func := "loop.example/g00692/laws.FnExactNotSet", spec := "fnExactNotSet", apart := false }
def FnExactNotSetSaid : Prop := fnExactNotSetRow.holds Try.pinned (OpenSpec.ofChange fnExactNotSetSpec)

/-- ITS FALSE NEIGHBOUR: 'it returns false'. Refute it at one input. -/
def fnExactNotSetWrong : ChangeSpec := { name := "fnExactNotSet", fn := fun _ => fun
  | [d] => { results := [.lit (.bool false)], args := [d] }
  | _ => none }
def FnExactNotSetWrongFalsely : Prop := fnExactNotSetRow.holds Try.pinned (OpenSpec.ofChange fnExactNotSetWrong)

/- THE SECOND FORM. 'bulk': how many values and letters a reading holds, each counted each time it is reached (what is shared counts as often as it is met; a slice's spare places count too). A statement '..UptoSaid' is the law's where the arguments, and the package variables that the reading takes, are together of bulk at most 1048576: NARROWER than '..Said'. Prove '..Said' where nothing that the law and all that it calls make is longer than what came in: it says more and counts as full. Else prove '..UptoSaid'. A law counts once. -/
mutual
def uptoBulk {H : Type} : DataW H → Nat
  | .lit (.string bytes) => bytes.length + 1
  | .lit _ => 1
  | .nil => 1
  | .ptr d => uptoBulk d + 1
  | .slice elems spare => uptoBulkAll elems + uptoBulkAll spare + 1
  | .agg parts => uptoBulkAll parts + 1
  | .iface _ d => uptoBulk d + 1
  | .map entries => uptoBulkEntries entries + 1
  | .held _ => 1
def uptoBulkAll {H : Type} : List (DataW H) → Nat
  | [] => 0
  | d :: r => uptoBulk d + uptoBulkAll r
def uptoBulkEntries {H : Type} : List (Lit × DataW H) → Nat
  | [] => 0
  | x :: r => uptoBulkEntry x + uptoBulkEntries r
def uptoBulkEntry {H : Type} : Lit × DataW H → Nat
  | (.string bytes, d) => bytes.length + uptoBulk d + 1
  | (_, d) => uptoBulk d + 1
 end
def uptoSmall : (H : Type) → List (DataW H) → Bool := fun _ ds => decide (uptoBulkAll ds ≤ 1048576)
def OpenSpec.upto (s : _root_.Go.ChangeSpec) : _root_.Go.OpenSpec := { _root_.Go.OpenSpec.ofChange s with cond := some uptoSmall }

/-- 'laws.FnExactConstants', WHERE WHAT IT READS IS OF BULK AT MOST 1048576: true; the input reads as it did. -/
def fnExactConstantsUptoRow : OpenClaim := { program := "ytepeimabodnmiaa", sum := "4970883818f5589c658dfd3044c196a4f984b90c8b66ac801749ef21723a447e", func := "loop.example/g00692/laws.FnExactConstants", spec := "fnExactConstants", apart := false, narrowed := true }
def FnExactConstantsUptoSaid : Prop := fnExactConstantsUptoRow.holds Try.pinned (OpenSpec.upto fnExactConstantsSpec)

/-- 'laws.FnExactGoodRune', WHERE WHAT IT READS IS OF BULK AT MOST 1048576: true; the input reads as it did. -/
def fnExactGoodRuneUptoRow : OpenClaim := { program := "ytepeimabodnmiaa", sum := "4970883818f5589c658dfd3044c196a4f984b90c8b66ac801749ef21723a447e", func := "loop.example/g00692/laws.FnExactGoodRune", spec := "fnExactGoodRune", apart := false, narrowed := true }
def FnExactGoodRuneUptoSaid : Prop := fnExactGoodRuneUptoRow.holds Try.pinned (OpenSpec.upto fnExactGoodRuneSpec)

/-- 'laws.FnExactFoldRune', WHERE WHAT IT READS IS OF BULK AT MOST 1048576: true; the input reads as it did. -/
def fnExactFoldRuneUptoRow : OpenClaim := { program := "ytepeimabodnmiaa", sum := "4970883818f5589c658dfd3044c196a4f984b90c8b66ac801749ef21723a447e", func := "loop.example/g00692/laws.FnExactFoldRune", spec := "fnExactFoldRune", apart := false, narrowed := true }
def FnExactFoldRuneUptoSaid : Prop := fnExactFoldRuneUptoRow.holds Try.pinned (OpenSpec.upto fnExactFoldRuneSpec)

/-- 'laws.FnExactUtf8Of', WHERE WHAT IT READS IS OF BULK AT MOST 1048576: true; the input reads as it did. -/
def fnExactUtf8OfUptoRow : OpenClaim := { program := "ytepeimabodnmiaa", sum := "4970883818f5589c658dfd3044c196a4f984b90c8b66ac801749ef21723a447e", func := "loop.example/g00692/laws.FnExactUtf8Of", spec := "fnExactUtf8Of", apart := false, narrowed := true }
def FnExactUtf8OfUptoSaid : Prop := fnExactUtf8OfUptoRow.holds Try.pinned (OpenSpec.upto fnExactUtf8OfSpec)

/-- 'laws.FnExactOrderOf', WHERE WHAT IT READS IS OF BULK AT MOST 1048576: true; the input reads as it did. -/
def fnExactOrderOfUptoRow : OpenClaim := { program := "ytepeimabodnmiaa", sum := "4970883818f5589c658dfd3044c196a4f984b90c8b66ac801749ef21723a447e", func := "loop.example/g00692/laws.FnExactOrderOf", spec := "fnExactOrderOf", apart := false, narrowed := true }
def FnExactOrderOfUptoSaid : Prop := fnExactOrderOfUptoRow.holds Try.pinned (OpenSpec.upto fnExactOrderOfSpec)

/-- 'laws.FnExactNewDecoder', WHERE WHAT IT READS IS OF BULK AT MOST 1048576: true; the input reads as it did. -/
def fnExactNewDecoderUptoRow : OpenClaim := { program := "ytepeimabodnmiaa", sum := "4970883818f5589c658dfd3044c196a4f984b90c8b66ac801749ef21723a447e", func := "loop.example/g00692/laws.FnExactNewDecoder", spec := "fnExactNewDecoder", apart := false, narrowed := true }
def FnExactNewDecoderUptoSaid : Prop := fnExactNewDecoderUptoRow.holds Try.pinned (OpenSpec.upto fnExactNewDecoderSpec)

/-- 'laws.FnExactGoodSet', WHERE WHAT IT READS IS OF BULK AT MOST 1048576: true; the input reads as it did. -/
def fnExactGoodSetUptoRow : OpenClaim := { program := "ytepeimabodnmiaa", sum := "4970883818f5589c658dfd3044c196a4f984b90c8b66ac801749ef21723a447e", func := "loop.example/g00692/laws.FnExactGoodSet", spec := "fnExactGoodSet", apart := false, narrowed := true }
def FnExactGoodSetUptoSaid : Prop := fnExactGoodSetUptoRow.holds Try.pinned (OpenSpec.upto fnExactGoodSetSpec)

/-- 'laws.FnExactCountSet', WHERE WHAT IT READS IS OF BULK AT MOST 1048576: true; the input reads as it did. -/
def fnExactCountSetUptoRow : OpenClaim := { program := "ytepeimabodnmiaa", sum := "4970883818f5589c658dfd3044c196a4f984b90c8b66ac801749ef21723a447e", func := "loop.example/g00692/laws.FnExactCountSet", spec := "fnExactCountSet", apart := false, narrowed := true }
def FnExactCountSetUptoSaid : Prop := fnExactCountSetUptoRow.holds Try.pinned (OpenSpec.upto fnExactCountSetSpec)

/-- 'laws.FnExactSplitRune', WHERE WHAT IT READS IS OF BULK AT MOST 1048576: true; the input reads as it did. -/
def fnExactSplitRuneUptoRow : OpenClaim := { program := "ytepeimabodnmiaa", sum := "4970883818f5589c658dfd3044c196a4f984b90c8b66ac801749ef21723a447e", func := "loop.example/g00692/laws.FnExactSplitRune", spec := "fnExactSplitRune", apart := false, narrowed := true }
def FnExactSplitRuneUptoSaid : Prop := fnExactSplitRuneUptoRow.holds Try.pinned (OpenSpec.upto fnExactSplitRuneSpec)

/-- 'laws.FnExactInSet', WHERE WHAT IT READS IS OF BULK AT MOST 1048576: true; the input reads as it did. -/
def fnExactInSetUptoRow : OpenClaim := { program := "ytepeimabodnmiaa", sum := "4970883818f5589c658dfd3044c196a4f984b90c8b66ac801749ef21723a447e", func := "loop.example/g00692/laws.FnExactInSet", spec := "fnExactInSet", unfollowed := true, recurses := true, apart := false, narrowed := true }
def FnExactInSetUptoSaid : Prop := fnExactInSetUptoRow.holds Try.pinned (OpenSpec.upto fnExactInSetSpec)

/-- 'laws.FnExactNotSet', WHERE WHAT IT READS IS OF BULK AT MOST 1048576: true; the input reads as it did. -/
def fnExactNotSetUptoRow : OpenClaim := { program := "ytepeimabodnmiaa", sum := "4970883818f5589c658dfd3044c196a4f984b90c8b66ac801749ef21723a447e", func := "loop.example/g00692/laws.FnExactNotSet", spec := "fnExactNotSet", apart := false, narrowed := true }
def FnExactNotSetUptoSaid : Prop := fnExactNotSetUptoRow.holds Try.pinned (OpenSpec.upto fnExactNotSetSpec)

end Rows
end Go.Proofs.Ytepeimabodnmiaa
