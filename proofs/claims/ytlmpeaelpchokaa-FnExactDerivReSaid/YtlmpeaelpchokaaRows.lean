/-
  No cell of these rows narrows 'for every input' (looked for: loops, veiled, ifaces, maps, wideKeys, modest, calm, conditions, laid).
  DERIVED. THE GIVEN ROWS OF THIS SEAT. 10 by the template 'for every input the law returns true; each argument reads behind the call as it read before'; 0 by the template 'total and deterministic' (their statements: YtlmpeaelpchokaaTotals.lean).
  GIVEN WITH THE SEED: the statements are not yours to turn. If you find one false, say at which input.
  Laid BY PROGRAM, IN A SANDBOX (cutbox-rows.mjs): the forced cells as the released guide's own fill.sh prints them over the translation c213e7a21cc901c0… (all of the seat's roots in one cut). By AI agents, Wed Nov 11 2026. No macro, syntax, notation, axiom, sorry.
-/
import Derived.Test.YtlmpeaelpchokaaChecked
import GoSem.Claim
import GoSem.ClaimJoined
import GoSem.ClaimMapViews
import Derived.JoinedTies
import Derived.KernelRfl
namespace Go.Proofs.Ytlmpeaelpchokaa
/- THE CELL 'sum', in the pinned program and in every row, IS THE sha256 OF THE DUMP (.gsa) THAT YtlmpeaelpchokaaProg.lean LOADS. Nothing in Lean hashes anything: it is a label: what it is worth is what the hold of that sum in a sandbox is worth. -/
noncomputable def Try.pinned : Pinned := { name := "ytlmpeaelpchokaa", sum := "c213e7a21cc901c0bd6c2839c834d2f9a4569688cd5df53a1866b13a90b9befe", checked := Try.checked }
namespace Rows
def none {H : Type} : Left H := { results := [], args := [] }

/-- 'laws.FnExactGoodRe': WHATEVER THE INPUT: true; the input reads as it did. -/
def fnExactGoodReSpec : ChangeSpec := { name := "fnExactGoodRe", fn := fun _ => fun
  | [d] => { results := [.lit (.bool true)], args := [d] }
  | _ => none }
def fnExactGoodReRow : OpenClaim := { program := "ytlmpeaelpchokaa", sum := "c213e7a21cc901c0bd6c2839c834d2f9a4569688cd5df53a1866b13a90b9befe", func := "loop.example/g00692/laws.FnExactGoodRe", spec := "fnExactGoodRe", unfollowed := true, recurses := true, apart := false }
def FnExactGoodReSaid : Prop := fnExactGoodReRow.holds Try.pinned (OpenSpec.ofChange fnExactGoodReSpec)

/-- ITS FALSE NEIGHBOUR: 'it returns false'. Refute it at one input. -/
def fnExactGoodReWrong : ChangeSpec := { name := "fnExactGoodRe", fn := fun _ => fun
  | [d] => { results := [.lit (.bool false)], args := [d] }
  | _ => none }
def FnExactGoodReWrongFalsely : Prop := fnExactGoodReRow.holds Try.pinned (OpenSpec.ofChange fnExactGoodReWrong)

/-- 'laws.FnExactIsPlain': WHATEVER THE INPUT: true; the input reads as it did. -/
def fnExactIsPlainSpec : ChangeSpec := { name := "fnExactIsPlain", fn := fun _ => fun
  | [d] => { results := [.lit (.bool true)], args := [d] }
  | _ => none }
def fnExactIsPlainRow : OpenClaim := { program := "ytlmpeaelpchokaa", sum := "c213e7a21cc901c0bd6c2839c834d2f9a4569688cd5df53a1866b13a90b9befe", func := "loop.example/g00692/laws.FnExactIsPlain", spec := "fnExactIsPlain", unfollowed := true, recurses := true, apart := false }
def FnExactIsPlainSaid : Prop := fnExactIsPlainRow.holds Try.pinned (OpenSpec.ofChange fnExactIsPlainSpec)

/-- ITS FALSE NEIGHBOUR: 'it returns false'. Refute it at one input. -/
def fnExactIsPlainWrong : ChangeSpec := { name := "fnExactIsPlain", fn := fun _ => fun
  | [d] => { results := [.lit (.bool false)], args := [d] }
  | _ => none }
def FnExactIsPlainWrongFalsely : Prop := fnExactIsPlainRow.holds Try.pinned (OpenSpec.ofChange fnExactIsPlainWrong)

/-- 'laws.FnExactLitRe': WHATEVER THE INPUT: true; the input reads as it did. -/
def fnExactLitReSpec : ChangeSpec := { name := "fnExactLitRe", fn := fun _ => fun
  | [d] => { results := [.lit (.bool true)], args := [d] }
  | _ => none }
def fnExactLitReRow : OpenClaim := { program := "ytlmpeaelpchokaa", sum := "c213e7a21cc901c0bd6c2839c834d2f9a4569688cd5df53a1866b13a90b9befe", func := "loop.example/g00692/laws.FnExactLitRe", spec := "fnExactLitRe", unfollowed := true, recurses := true, apart := false }
def FnExactLitReSaid : Prop := fnExactLitReRow.holds Try.pinned (OpenSpec.ofChange fnExactLitReSpec)

/-- ITS FALSE NEIGHBOUR: 'it returns false'. Refute it at one input. -/
def fnExactLitReWrong : ChangeSpec := { name := "fnExactLitRe", fn := fun _ => fun
  | [d] => { results := [.lit (.bool false)], args := [d] }
  | _ => none }
def FnExactLitReWrongFalsely : Prop := fnExactLitReRow.holds Try.pinned (OpenSpec.ofChange fnExactLitReWrong)

/-- 'laws.FnExactIsNullable': WHATEVER THE INPUT: true; the input reads as it did. -/
def fnExactIsNullableSpec : ChangeSpec := { name := "fnExactIsNullable", fn := fun _ => fun
  | [d] => { results := [.lit (.bool true)], args := [d] }
  | _ => none }
def fnExactIsNullableRow : OpenClaim := { program := "ytlmpeaelpchokaa", sum := "c213e7a21cc901c0bd6c2839c834d2f9a4569688cd5df53a1866b13a90b9befe", func := "loop.example/g00692/laws.FnExactIsNullable", spec := "fnExactIsNullable", unfollowed := true, recurses := true, apart := false }
def FnExactIsNullableSaid : Prop := fnExactIsNullableRow.holds Try.pinned (OpenSpec.ofChange fnExactIsNullableSpec)

/-- ITS FALSE NEIGHBOUR: 'it returns false'. Refute it at one input. -/
def fnExactIsNullableWrong : ChangeSpec := { name := "fnExactIsNullable", fn := fun _ => fun
  | [d] => { results := [.lit (.bool false)], args := [d] }
  | _ => none }
def FnExactIsNullableWrongFalsely : Prop := fnExactIsNullableRow.holds Try.pinned (OpenSpec.ofChange fnExactIsNullableWrong)

/-- 'laws.FnExactMatchesRe': WHATEVER THE INPUT: true; the input reads as it did. -/
def fnExactMatchesReSpec : ChangeSpec := { name := "fnExactMatchesRe", fn := fun _ => fun
  | [d1, d2] => { results := [.lit (.bool true)], args := [d1, d2] }
  | _ => none }
def fnExactMatchesReRow : OpenClaim := { program := "ytlmpeaelpchokaa", sum := "c213e7a21cc901c0bd6c2839c834d2f9a4569688cd5df53a1866b13a90b9befe", func := "loop.example/g00692/laws.FnExactMatchesRe", spec := "fnExactMatchesRe", unfollowed := true, recurses := true, apart := false }
def FnExactMatchesReSaid : Prop := fnExactMatchesReRow.holds Try.pinned (OpenSpec.ofChange fnExactMatchesReSpec)

/-- ITS FALSE NEIGHBOUR: 'it returns false'. Refute it at one input. -/
def fnExactMatchesReWrong : ChangeSpec := { name := "fnExactMatchesRe", fn := fun _ => fun
  | [d1, d2] => { results := [.lit (.bool false)], args := [d1, d2] }
  | _ => none }
def FnExactMatchesReWrongFalsely : Prop := fnExactMatchesReRow.holds Try.pinned (OpenSpec.ofChange fnExactMatchesReWrong)

/-- 'laws.FnExactRevRe': WHATEVER THE INPUT: true; the input reads as it did. -/
def fnExactRevReSpec : ChangeSpec := { name := "fnExactRevRe", fn := fun _ => fun
  | [d] => { results := [.lit (.bool true)], args := [d] }
  | _ => none }
def fnExactRevReRow : OpenClaim := { program := "ytlmpeaelpchokaa", sum := "c213e7a21cc901c0bd6c2839c834d2f9a4569688cd5df53a1866b13a90b9befe", func := "loop.example/g00692/laws.FnExactRevRe", spec := "fnExactRevRe", unfollowed := true, recurses := true, apart := false }
def FnExactRevReSaid : Prop := fnExactRevReRow.holds Try.pinned (OpenSpec.ofChange fnExactRevReSpec)

/-- ITS FALSE NEIGHBOUR: 'it returns false'. Refute it at one input. -/
def fnExactRevReWrong : ChangeSpec := { name := "fnExactRevRe", fn := fun _ => fun
  | [d] => { results := [.lit (.bool false)], args := [d] }
  | _ => none }
def FnExactRevReWrongFalsely : Prop := fnExactRevReRow.holds Try.pinned (OpenSpec.ofChange fnExactRevReWrong)

/-- 'laws.FnExactTidyRe': WHATEVER THE INPUT: true; the input reads as it did. -/
def fnExactTidyReSpec : ChangeSpec := { name := "fnExactTidyRe", fn := fun _ => fun
  | [d] => { results := [.lit (.bool true)], args := [d] }
  | _ => none }
def fnExactTidyReRow : OpenClaim := { program := "ytlmpeaelpchokaa", sum := "c213e7a21cc901c0bd6c2839c834d2f9a4569688cd5df53a1866b13a90b9befe", func := "loop.example/g00692/laws.FnExactTidyRe", spec := "fnExactTidyRe", unfollowed := true, recurses := true, apart := false }
def FnExactTidyReSaid : Prop := fnExactTidyReRow.holds Try.pinned (OpenSpec.ofChange fnExactTidyReSpec)

/-- ITS FALSE NEIGHBOUR: 'it returns false'. Refute it at one input. -/
def fnExactTidyReWrong : ChangeSpec := { name := "fnExactTidyRe", fn := fun _ => fun
  | [d] => { results := [.lit (.bool false)], args := [d] }
  | _ => none }
def FnExactTidyReWrongFalsely : Prop := fnExactTidyReRow.holds Try.pinned (OpenSpec.ofChange fnExactTidyReWrong)

/-- 'laws.FnExactFoldRe': WHATEVER THE INPUT: true; the input reads as it did. -/
def fnExactFoldReSpec : ChangeSpec := { name := "fnExactFoldRe", fn := fun _ => fun
  | [d] => { results := [.lit (.bool true)], args := [d] }
  | _ => none }
def fnExactFoldReRow : OpenClaim := { program := "ytlmpeaelpchokaa", sum := "c213e7a21cc901c0bd6c2839c834d2f9a4569688cd5df53a1866b13a90b9befe", func := "loop.example/g00692/laws.FnExactFoldRe", spec := "fnExactFoldRe", unfollowed := true, recurses := true, apart := false }
def FnExactFoldReSaid : Prop := fnExactFoldReRow.holds Try.pinned (OpenSpec.ofChange fnExactFoldReSpec)

/-- ITS FALSE NEIGHBOUR: 'it returns false'. Refute it at one input. -/
def fnExactFoldReWrong : ChangeSpec := { name := "fnExactFoldRe", fn := fun _ => fun
  | [d] => { results := [.lit (.bool false)], args := [d] }
  | _ => none }
def FnExactFoldReWrongFalsely : Prop := fnExactFoldReRow.holds Try.pinned (OpenSpec.ofChange fnExactFoldReWrong)

/-- 'laws.FnExactDerivRe': WHATEVER THE INPUT: true; the input reads as it did. -/
def fnExactDerivReSpec : ChangeSpec := { name := "fnExactDerivRe", fn := fun _ => fun
  | [d1, d2] => { results := [.lit (.bool true)], args := [d1, d2] }
  | _ => none }
def fnExactDerivReRow : OpenClaim := { program := "ytlmpeaelpchokaa", sum := "c213e7a21cc901c0bd6c2839c834d2f9a4569688cd5df53a1866b13a90b9befe", func := "loop.example/g00692/laws.FnExactDerivRe", spec := "fnExactDerivRe", unfollowed := true, recurses := true, apart := false }
def FnExactDerivReSaid : Prop := fnExactDerivReRow.holds Try.pinned (OpenSpec.ofChange fnExactDerivReSpec)

/-- ITS FALSE NEIGHBOUR: 'it returns false'. Refute it at one input. -/
def fnExactDerivReWrong : ChangeSpec := { name := "fnExactDerivRe", fn := fun _ => fun
  | [d1, d2] => { results := [.lit (.bool false)], args := [d1, d2] }
  | _ => none }
def FnExactDerivReWrongFalsely : Prop := fnExactDerivReRow.holds Try.pinned (OpenSpec.ofChange fnExactDerivReWrong)

/-- 'laws.FnExactReText': WHATEVER THE INPUT: true; the input reads as it did. -/
def fnExactReTextSpec : ChangeSpec := { name := "fnExactReText", fn := fun _ => fun
  | [d] => { results := [.lit (.bool true)], args := [d] }
  | _ => none }
def fnExactReTextRow : OpenClaim := { program := "ytlmpeaelpchokaa", sum := "c213e7a21cc901c0bd6c2839c834d2f9a4569688cd5df53a1866b13a90b9befe", func := "loop.example/g00692/laws.FnExactReText", spec := "fnExactReText", inPlace := ["internal/bytealg.IndexByteString", "internal/bytealg.IndexString"], unfollowed := true, recurses := true, named := ["internal/bytealg.MaxLen"], apart := false }
def FnExactReTextSaid : Prop := fnExactReTextRow.holds Try.pinned (OpenSpec.ofChange fnExactReTextSpec)

/-- ITS FALSE NEIGHBOUR: 'it returns false'. Refute it at one input. -/
def fnExactReTextWrong : ChangeSpec := { name := "fnExactReText", fn := fun _ => fun
  | [d] => { results := [.lit (.bool false)], args := [d] }
  | _ => none }
def FnExactReTextWrongFalsely : Prop := fnExactReTextRow.holds Try.pinned (OpenSpec.ofChange fnExactReTextWrong)

/- THE SECOND FORM. 'bulk': how many values and letters a reading holds, each counted each time it is reached (what is shared counts as often as it is met; a slice's spare places count too). A statement '..UptoSaid' is the law's where the arguments, and the package variables that the reading takes, are together of bulk at most 1048576: NARROWER than '..Said'. Prove '..Said' where nothing that the law and all that it calls make is longer than what came in: it says more and counts as full. Else prove '..UptoSaid'. A law counts once. -/
mutual
def uptoBulk {H : Type} : DataW H → Nat
  | .lit (.string bytes) => bytes.length + 1
  | .lit _ => 1
  | .nil => 1
  | .ptr d => uptoBulk d + 1
  | .slice elems spare => uptoBulkAll elems + uptoBulkAll spare + 1
  | .agg parts => uptoBulkAll parts + 1
  | .iface _ d => uptoBulk d + 1
  | .map entries => uptoBulkEntries entries + 1
  | .held _ => 1
def uptoBulkAll {H : Type} : List (DataW H) → Nat
  | [] => 0
  | d :: r => uptoBulk d + uptoBulkAll r
def uptoBulkEntries {H : Type} : List (Lit × DataW H) → Nat
  | [] => 0
  | x :: r => uptoBulkEntry x + uptoBulkEntries r
def uptoBulkEntry {H : Type} : Lit × DataW H → Nat
  | (.string bytes, d) => bytes.length + uptoBulk d + 1
  | (_, d) => uptoBulk d + 1
 end
def uptoSmall : (H : Type) → List (DataW H) → Bool := fun _ ds => decide (uptoBulkAll ds ≤ 1048576)
def OpenSpec.upto (s : _root_.Go.ChangeSpec) : _root_.Go.OpenSpec := { _root_.Go.OpenSpec.ofChange s with cond := some uptoSmall }

/-- 'laws.FnExactGoodRe', WHERE WHAT IT READS IS OF BULK AT MOST 1048576: true; the input reads as it did. -/
def fnExactGoodReUptoRow : OpenClaim := { program := "ytlmpeaelpchokaa", sum := "c213e7a21cc901c0bd6c2839c834d2f9a4569688cd5df53a1866b13a90b9befe", func := "loop.example/g00692/laws.FnExactGoodRe", spec := "fnExactGoodRe", unfollowed := true, recurses := true, apart := false, narrowed := true }
def FnExactGoodReUptoSaid : Prop := fnExactGoodReUptoRow.holds Try.pinned (OpenSpec.upto fnExactGoodReSpec)

/-- 'laws.FnExactIsPlain', WHERE WHAT IT READS IS OF BULK AT MOST 1048576: true; the input reads as it did. -/
def fnExactIsPlainUptoRow : OpenClaim := { program := "ytlmpeaelpchokaa", sum := "c213e7a21cc901c0bd6c2839c834d2f9a4569688cd5df53a1866b13a90b9befe", func := "loop.example/g00692/laws.FnExactIsPlain", spec := "fnExactIsPlain", unfollowed := true, recurses := true, apart := false, narrowed := true }
def FnExactIsPlainUptoSaid : Prop := fnExactIsPlainUptoRow.holds Try.pinned (OpenSpec.upto fnExactIsPlainSpec)

/-- 'laws.FnExactLitRe', WHERE WHAT IT READS IS OF BULK AT MOST 1048576: true; the input reads as it did. -/
def fnExactLitReUptoRow : OpenClaim := { program := "ytlmpeaelpchokaa", sum := "c213e7a21cc901c0bd6c2839c834d2f9a4569688cd5df53a1866b13a90b9befe", func := "loop.example/g00692/laws.FnExactLitRe", spec := "fnExactLitRe", unfollowed := true, recurses := true, apart := false, narrowed := true }
def FnExactLitReUptoSaid : Prop := fnExactLitReUptoRow.holds Try.pinned (OpenSpec.upto fnExactLitReSpec)

/-- 'laws.FnExactIsNullable', WHERE WHAT IT READS IS OF BULK AT MOST 1048576: true; the input reads as it did. -/
def fnExactIsNullableUptoRow : OpenClaim := { program := "ytlmpeaelpchokaa", sum := "c213e7a21cc901c0bd6c2839c834d2f9a4569688cd5df53a1866b13a90b9befe", func := "loop.example/g00692/laws.FnExactIsNullable", spec := "fnExactIsNullable", unfollowed := true, recurses := true, apart := false, narrowed := true }
def FnExactIsNullableUptoSaid : Prop := fnExactIsNullableUptoRow.holds Try.pinned (OpenSpec.upto fnExactIsNullableSpec)

/-- 'laws.FnExactMatchesRe', WHERE WHAT IT READS IS OF BULK AT MOST 1048576: true; the input reads as it did. -/
def fnExactMatchesReUptoRow : OpenClaim := { program := "ytlmpeaelpchokaa", sum := "c213e7a21cc901c0bd6c2839c834d2f9a4569688cd5df53a1866b13a90b9befe", func := "loop.example/g00692/laws.FnExactMatchesRe", spec := "fnExactMatchesRe", unfollowed := true, recurses := true, apart := false, narrowed := true }
def FnExactMatchesReUptoSaid : Prop := fnExactMatchesReUptoRow.holds Try.pinned (OpenSpec.upto fnExactMatchesReSpec)

/-- 'laws.FnExactRevRe', WHERE WHAT IT READS IS OF BULK AT MOST 1048576: true; the input reads as it did. -/
def fnExactRevReUptoRow : OpenClaim := { program := "ytlmpeaelpchokaa", sum := "c213e7a21cc901c0bd6c2839c834d2f9a4569688cd5df53a1866b13a90b9befe", func := "loop.example/g00692/laws.FnExactRevRe", spec := "fnExactRevRe", unfollowed := true, recurses := true, apart := false, narrowed := true }
def FnExactRevReUptoSaid : Prop := fnExactRevReUptoRow.holds Try.pinned (OpenSpec.upto fnExactRevReSpec)

/-- 'laws.FnExactTidyRe', WHERE WHAT IT READS IS OF BULK AT MOST 1048576: true; the input reads as it did. -/
def fnExactTidyReUptoRow : OpenClaim := { program := "ytlmpeaelpchokaa", sum := "c213e7a21cc901c0bd6c2839c834d2f9a4569688cd5df53a1866b13a90b9befe", func := "loop.example/g00692/laws.FnExactTidyRe", spec := "fnExactTidyRe", unfollowed := true, recurses := true, apart := false, narrowed := true }
def FnExactTidyReUptoSaid : Prop := fnExactTidyReUptoRow.holds Try.pinned (OpenSpec.upto fnExactTidyReSpec)

/-- 'laws.FnExactFoldRe', WHERE WHAT IT READS IS OF BULK AT MOST 1048576: true; the input reads as it did. -/
def fnExactFoldReUptoRow : OpenClaim := { program := "ytlmpeaelpchokaa", sum := "c213e7a21cc901c0bd6c2839c834d2f9a4569688cd5df53a1866b13a90b9befe", func := "loop.example/g00692/laws.FnExactFoldRe", spec := "fnExactFoldRe", unfollowed := true, recurses := true, apart := false, narrowed := true }
def FnExactFoldReUptoSaid : Prop := fnExactFoldReUptoRow.holds Try.pinned (OpenSpec.upto fnExactFoldReSpec)

/-- 'laws.FnExactDerivRe', WHERE WHAT IT READS IS OF BULK AT MOST 1048576: true; the input reads as it did. -/
def fnExactDerivReUptoRow : OpenClaim := { program := "ytlmpeaelpchokaa", sum := "c213e7a21cc901c0bd6c2839c834d2f9a4569688cd5df53a1866b13a90b9befe", func := "loop.example/g00692/laws.FnExactDerivRe", spec := "fnExactDerivRe", unfollowed := true, recurses := true, apart := false, narrowed := true }
def FnExactDerivReUptoSaid : Prop := fnExactDerivReUptoRow.holds Try.pinned (OpenSpec.upto fnExactDerivReSpec)

/-- 'laws.FnExactReText', WHERE WHAT IT READS IS OF BULK AT MOST 1048576: true; the input reads as it did. -/
def fnExactReTextUptoRow : OpenClaim := { program := "ytlmpeaelpchokaa", sum := "c213e7a21cc901c0bd6c2839c834d2f9a4569688cd5df53a1866b13a90b9befe", func := "loop.example/g00692/laws.FnExactReText", spec := "fnExactReText", inPlace := ["internal/bytealg.IndexByteString", "internal/bytealg.IndexString"], unfollowed := true, recurses := true, named := ["internal/bytealg.MaxLen"], apart := false, narrowed := true }
def FnExactReTextUptoSaid : Prop := fnExactReTextUptoRow.holds Try.pinned (OpenSpec.upto fnExactReTextSpec)

end Rows
end Go.Proofs.Ytlmpeaelpchokaa
