/-
  No cell of these rows narrows 'for every input' (looked for: loops, veiled, ifaces, maps, wideKeys, modest, calm, conditions, laid).
  DERIVED. THE GIVEN ROWS OF THIS SEAT. 6 by the template 'for every input the law returns true; each argument reads behind the call as it read before'; 0 by the template 'total and deterministic' (their statements: YthincjdobjccfaaTotals.lean).
  GIVEN WITH THE SEED: the statements are not yours to turn. If you find one false, say at which input.
  Laid BY PROGRAM, IN A SANDBOX (cutbox-rows.mjs): the forced cells as the released guide's own fill.sh prints them over the translation 651eb3e741e64dad… (all of the seat's roots in one cut). By AI agents, Wed Nov 11 2026. No macro, syntax, notation, axiom, sorry.
-/
import Derived.Test.YthincjdobjccfaaChecked
import GoSem.Claim
import GoSem.ClaimJoined
import GoSem.ClaimMapViews
import Derived.JoinedTies
import Derived.KernelRfl
namespace Go.Proofs.Ythincjdobjccfaa
/- THE CELL 'sum', in the pinned program and in every row, IS THE sha256 OF THE DUMP (.gsa) THAT YthincjdobjccfaaProg.lean LOADS. Nothing in Lean hashes anything: it is a label: what it is worth is what the hold of that sum in a sandbox is worth. -/
noncomputable def Try.pinned : Pinned := { name := "ythincjdobjccfaa", sum := "651eb3e741e64dad76f52222fe54c665eda25ffd3b63dc4e6c7e14dd39a1500a", checked := Try.checked }
namespace Rows
def none {H : Type} : Left H := { results := [], args := [] }

/-- 'laws.FnExactUnionSet': WHATEVER THE INPUT: true; the input reads as it did. -/
def fnExactUnionSetSpec : ChangeSpec := { name := "fnExactUnionSet", fn := fun _ => fun
  | [d1, d2] => { results := [.lit (.bool true)], args := [d1, d2] }
  | _ => none }
def fnExactUnionSetRow : OpenClaim := { program := "ythincjdobjccfaa", sum := "651eb3e741e64dad76f52222fe54c665eda25ffd3b63dc4e6c7e14dd39a1500a", func := "loop.example/g00692/laws.FnExactUnionSet", spec := "fnExactUnionSet", unfollowed := true, recurses := true, apart := false }
def FnExactUnionSetSaid : Prop := fnExactUnionSetRow.holds Try.pinned (OpenSpec.ofChange fnExactUnionSetSpec)

/-- ITS FALSE NEIGHBOUR: 'it returns false'. Refute it at one input. -/
def fnExactUnionSetWrong : ChangeSpec := { name := "fnExactUnionSet", fn := fun _ => fun
  | [d1, d2] => { results := [.lit (.bool false)], args := [d1, d2] }
  | _ => none }
def FnExactUnionSetWrongFalsely : Prop := fnExactUnionSetRow.holds Try.pinned (OpenSpec.ofChange fnExactUnionSetWrong)

/-- 'laws.FnExactMeetSet': WHATEVER THE INPUT: true; the input reads as it did. -/
def fnExactMeetSetSpec : ChangeSpec := { name := "fnExactMeetSet", fn := fun _ => fun
  | [d1, d2] => { results := [.lit (.bool true)], args := [d1, d2] }
  | _ => none }
def fnExactMeetSetRow : OpenClaim := { program := "ythincjdobjccfaa", sum := "651eb3e741e64dad76f52222fe54c665eda25ffd3b63dc4e6c7e14dd39a1500a", func := "loop.example/g00692/laws.FnExactMeetSet", spec := "fnExactMeetSet", unfollowed := true, recurses := true, apart := false }
def FnExactMeetSetSaid : Prop := fnExactMeetSetRow.holds Try.pinned (OpenSpec.ofChange fnExactMeetSetSpec)

/-- ITS FALSE NEIGHBOUR: 'it returns false'. Refute it at one input. -/
def fnExactMeetSetWrong : ChangeSpec := { name := "fnExactMeetSet", fn := fun _ => fun
  | [d1, d2] => { results := [.lit (.bool false)], args := [d1, d2] }
  | _ => none }
def FnExactMeetSetWrongFalsely : Prop := fnExactMeetSetRow.holds Try.pinned (OpenSpec.ofChange fnExactMeetSetWrong)

/-- 'laws.FnExactSetOf': WHATEVER THE INPUT: true; the input reads as it did. -/
def fnExactSetOfSpec : ChangeSpec := { name := "fnExactSetOf", fn := fun _ => fun
  | [d] => { results := [.lit (.bool true)], args := [d] }
  | _ => none }
def fnExactSetOfRow : OpenClaim := { program := "ythincjdobjccfaa", sum := "651eb3e741e64dad76f52222fe54c665eda25ffd3b63dc4e6c7e14dd39a1500a", func := "loop.example/g00692/laws.FnExactSetOf", spec := "fnExactSetOf", unfollowed := true, recurses := true, apart := false }
def FnExactSetOfSaid : Prop := fnExactSetOfRow.holds Try.pinned (OpenSpec.ofChange fnExactSetOfSpec)

/-- ITS FALSE NEIGHBOUR: 'it returns false'. Refute it at one input. -/
def fnExactSetOfWrong : ChangeSpec := { name := "fnExactSetOf", fn := fun _ => fun
  | [d] => { results := [.lit (.bool false)], args := [d] }
  | _ => none }
def FnExactSetOfWrongFalsely : Prop := fnExactSetOfRow.holds Try.pinned (OpenSpec.ofChange fnExactSetOfWrong)

/-- 'laws.FnExactFoldSet': WHATEVER THE INPUT: true; the input reads as it did. -/
def fnExactFoldSetSpec : ChangeSpec := { name := "fnExactFoldSet", fn := fun _ => fun
  | [d] => { results := [.lit (.bool true)], args := [d] }
  | _ => none }
def fnExactFoldSetRow : OpenClaim := { program := "ythincjdobjccfaa", sum := "651eb3e741e64dad76f52222fe54c665eda25ffd3b63dc4e6c7e14dd39a1500a", func := "loop.example/g00692/laws.FnExactFoldSet", spec := "fnExactFoldSet", unfollowed := true, recurses := true, apart := false }
def FnExactFoldSetSaid : Prop := fnExactFoldSetRow.holds Try.pinned (OpenSpec.ofChange fnExactFoldSetSpec)

/-- ITS FALSE NEIGHBOUR: 'it returns false'. Refute it at one input. -/
def fnExactFoldSetWrong : ChangeSpec := { name := "fnExactFoldSet", fn := fun _ => fun
  | [d] => { results := [.lit (.bool false)], args := [d] }
  | _ => none }
def FnExactFoldSetWrongFalsely : Prop := fnExactFoldSetRow.holds Try.pinned (OpenSpec.ofChange fnExactFoldSetWrong)

/-- 'laws.FnSets': WHATEVER THE INPUT: true; the input reads as it did. -/
def fnSetsSpec : ChangeSpec := { name := "fnSets", fn := fun _ => fun
  | [d1, d2] => { results := [.lit (.bool true)], args := [d1, d2] }
  | _ => none }
def fnSetsRow : OpenClaim := { program := "ythincjdobjccfaa", sum := "651eb3e741e64dad76f52222fe54c665eda25ffd3b63dc4e6c7e14dd39a1500a", func := "loop.example/g00692/laws.FnSets", spec := "fnSets", unfollowed := true, recurses := true, apart := false }
def FnSetsSaid : Prop := fnSetsRow.holds Try.pinned (OpenSpec.ofChange fnSetsSpec)

/-- ITS FALSE NEIGHBOUR: 'it returns false'. Refute it at one input. -/
def fnSetsWrong : ChangeSpec := { name := "fnSets", fn := fun _ => fun
  | [d1, d2] => { results := [.lit (.bool false)], args := [d1, d2] }
  | _ => none }
def FnSetsWrongFalsely : Prop := fnSetsRow.holds Try.pinned (OpenSpec.ofChange fnSetsWrong)

/-- 'laws.FnFolded': WHATEVER THE INPUT: true; the input reads as it did. -/
def fnFoldedSpec : ChangeSpec := { name := "fnFolded", fn := fun _ => fun
  | [d1, d2] => { results := [.lit (.bool true)], args := [d1, d2] }
  | _ => none }
def fnFoldedRow : OpenClaim := { program := "ythincjdobjccfaa", sum := "651eb3e741e64dad76f52222fe54c665eda25ffd3b63dc4e6c7e14dd39a1500a", func := "loop.example/g00692/laws.FnFolded", spec := "fnFolded", unfollowed := true, recurses := true, apart := false }
def FnFoldedSaid : Prop := fnFoldedRow.holds Try.pinned (OpenSpec.ofChange fnFoldedSpec)

/-- ITS FALSE NEIGHBOUR: 'it returns false'. Refute it at one input. -/
def fnFoldedWrong : ChangeSpec := { name := "fnFolded", fn := fun _ => fun
  | [d1, d2] => { results := [.lit (.bool false)], args := [d1, d2] }
  | _ => none }
def FnFoldedWrongFalsely : Prop := fnFoldedRow.holds Try.pinned (OpenSpec.ofChange fnFoldedWrong)

/- THE SECOND FORM. 'bulk': how many values and letters a reading holds, each counted each time it is reached (what is shared counts as often as it is met; a slice's spare places count too). A statement '..UptoSaid' is the law's where the arguments, and the package variables that the reading takes, are together of bulk at most 1048576: NARROWER than '..Said'. Prove '..Said' where nothing that the law and all that it calls make is longer than what came in: it says more and counts as full. Else prove '..UptoSaid'. A law counts once. -/
mutual
def uptoBulk {H : Type} : DataW H → Nat
  | .lit (.string bytes) => bytes.length + 1
  | .lit _ => 1
  | .nil => 1
  | .ptr d => uptoBulk d + 1
  | .slice elems spare => uptoBulkAll elems + uptoBulkAll spare + 1
  | .agg parts => uptoBulkAll parts + 1
  | .iface _ d => uptoBulk d + 1
  | .map entries => uptoBulkEntries entries + 1
  | .held _ => 1
def uptoBulkAll {H : Type} : List (DataW H) → Nat
  | [] => 0
  | d :: r => uptoBulk d + uptoBulkAll r
def uptoBulkEntries {H : Type} : List (Lit × DataW H) → Nat
  | [] => 0
  | x :: r => uptoBulkEntry x + uptoBulkEntries r
def uptoBulkEntry {H : Type} : Lit × DataW H → Nat
  | (.string bytes, d) => bytes.length + uptoBulk d + 1
  | (_, d) => uptoBulk d + 1
 end
def uptoSmall : (H : Type) → List (DataW H) → Bool := fun _ ds => decide (uptoBulkAll ds ≤ 1048576)
def OpenSpec.upto (s : _root_.Go.ChangeSpec) : _root_.Go.OpenSpec := { _root_.Go.OpenSpec.ofChange s with cond := some uptoSmall }

/-- 'laws.FnExactUnionSet', WHERE WHAT IT READS IS OF BULK AT MOST 1048576: true; the input reads as it did. -/
def fnExactUnionSetUptoRow : OpenClaim := { program := "ythincjdobjccfaa", sum := "651eb3e741e64dad76f52222fe54c665eda25ffd3b63dc4e6c7e14dd39a1500a", func := "loop.example/g00692/laws.FnExactUnionSet", spec := "fnExactUnionSet", unfollowed := true, recurses := true, apart := false, narrowed := true }
def FnExactUnionSetUptoSaid : Prop := fnExactUnionSetUptoRow.holds Try.pinned (OpenSpec.upto fnExactUnionSetSpec)

/-- 'laws.FnExactMeetSet', WHERE WHAT IT READS IS OF BULK AT MOST 1048576: true; the input reads as it did. -/
def fnExactMeetSetUptoRow : OpenClaim := { program := "ythincjdobjccfaa", sum := "651eb3e741e64dad76f52222fe54c665eda25ffd3b63dc4e6c7e14dd39a1500a", func := "loop.example/g00692/laws.FnExactMeetSet", spec := "fnExactMeetSet", unfollowed := true, recurses := true, apart := false, narrowed := true }
def FnExactMeetSetUptoSaid : Prop := fnExactMeetSetUptoRow.holds Try.pinned (OpenSpec.upto fnExactMeetSetSpec)

/-- 'laws.FnExactSetOf', WHERE WHAT IT READS IS OF BULK AT MOST 1048576: true; the input reads as it did. -/
def fnExactSetOfUptoRow : OpenClaim := { program := "ythincjdobjccfaa", sum := "651eb3e741e64dad76f52222fe54c665eda25ffd3b63dc4e6c7e14dd39a1500a", func := "loop.example/g00692/laws.FnExactSetOf", spec := "fnExactSetOf", unfollowed := true, recurses := true, apart := false, narrowed := true }
def FnExactSetOfUptoSaid : Prop := fnExactSetOfUptoRow.holds Try.pinned (OpenSpec.upto fnExactSetOfSpec)

/-- 'laws.FnExactFoldSet', WHERE WHAT IT READS IS OF BULK AT MOST 1048576: true; the input reads as it did. -/
def fnExactFoldSetUptoRow : OpenClaim := { program := "ythincjdobjccfaa", sum := "651eb3e741e64dad76f52222fe54c665eda25ffd3b63dc4e6c7e14dd39a1500a", func := "loop.example/g00692/laws.FnExactFoldSet", spec := "fnExactFoldSet", unfollowed := true, recurses := true, apart := false, narrowed := true }
def FnExactFoldSetUptoSaid : Prop := fnExactFoldSetUptoRow.holds Try.pinned (OpenSpec.upto fnExactFoldSetSpec)

/-- 'laws.FnSets', WHERE WHAT IT READS IS OF BULK AT MOST 1048576: true; the input reads as it did. -/
def fnSetsUptoRow : OpenClaim := { program := "ythincjdobjccfaa", sum := "651eb3e741e64dad76f52222fe54c665eda25ffd3b63dc4e6c7e14dd39a1500a", func := "loop.example/g00692/laws.FnSets", spec := "fnSets", unfollowed := true, recurses := true, apart := false, narrowed := true }
def FnSetsUptoSaid : Prop := fnSetsUptoRow.holds Try.pinned (OpenSpec.upto fnSetsSpec)

/-- 'laws.FnFolded', WHERE WHAT IT READS IS OF BULK AT MOST 1048576: true; the input reads as it did. -/
def fnFoldedUptoRow : OpenClaim := { program := "ythincjdobjccfaa", sum := "651eb3e741e64dad76f52222fe54c665eda25ffd3b63dc4e6c7e14dd39a1500a", func := "loop.example/g00692/laws.FnFolded", spec := "fnFolded", unfollowed := true, recurses := true, apart := false, narrowed := true }
def FnFoldedUptoSaid : Prop := fnFoldedUptoRow.holds Try.pinned (OpenSpec.upto fnFoldedSpec)

end Rows
end Go.Proofs.Ythincjdobjccfaa
