/-
  No cell of these rows narrows 'for every input' (looked for: loops, veiled, ifaces, maps, wideKeys, modest, calm, conditions, laid).
  DERIVED. THE GIVEN ROWS OF THIS SEAT. 6 by the template 'for every input the law returns true; each argument reads behind the call as it read before'; 0 by the template 'total and deterministic' (their statements: YtaeaeejfaffbpaaTotals.lean).
  GIVEN WITH THE SEED: the statements are not yours to turn. If you find one false, say at which input.
  Laid BY PROGRAM, IN A SANDBOX (cutbox-rows.mjs): the forced cells as the released guide's own fill.sh prints them over the translation be2c208627b48b47… (all of the seat's roots in one cut). By AI agents, Wed Nov 11 2026. No macro, syntax, notation, axiom, sorry.
-/
import Derived.Test.YtaeaeejfaffbpaaChecked
import GoSem.Claim
import GoSem.ClaimJoined
import GoSem.ClaimMapViews
import Derived.JoinedTies
import Derived.KernelRfl
namespace Go.Proofs.Ytaeaeejfaffbpaa
/- THE CELL 'sum', in the pinned program and in every row, IS THE sha256 OF THE DUMP (.gsa) THAT YtaeaeejfaffbpaaProg.lean LOADS. Nothing in Lean hashes anything: it is a label: what it is worth is what the hold of that sum in a sandbox is worth. -/
noncomputable def Try.pinned : Pinned := { name := "ytaeaeejfaffbpaa", sum := "be2c208627b48b47e79d37511123cc75df27b98244c144355b6668bbb335057c", checked := Try.checked }
namespace Rows
def none {H : Type} : Left H := { results := [], args := [] }

/-- 'laws.FnExactSplitAll': WHATEVER THE INPUT: true; the input reads as it did. -/
def fnExactSplitAllSpec : ChangeSpec := { name := "fnExactSplitAll", fn := fun _ => fun
  | [d] => { results := [.lit (.bool true)], args := [d] }
  | _ => none }
def fnExactSplitAllRow : OpenClaim := { program := "ytaeaeejfaffbpaa", sum := "be2c208627b48b47e79d37511123cc75df27b98244c144355b6668bbb335057c", func := "loop.example/g00692/laws.FnExactSplitAll", spec := "fnExactSplitAll", unfollowed := true, recurses := true, apart := false }
def FnExactSplitAllSaid : Prop := fnExactSplitAllRow.holds Try.pinned (OpenSpec.ofChange fnExactSplitAllSpec)

/-- ITS FALSE NEIGHBOUR: 'it returns false'. Refute it at one input. -/
def fnExactSplitAllWrong : ChangeSpec := { name := "fnExactSplitAll", fn := fun _ => fun
  | [d] => { results := [.lit (.bool false)], args := [d] }
  | _ => none }
def FnExactSplitAllWrongFalsely : Prop := fnExactSplitAllRow.holds Try.pinned (OpenSpec.ofChange fnExactSplitAllWrong)

/-- 'laws.FnExactSortMarks': WHATEVER THE INPUT: true; the input reads as it did. -/
def fnExactSortMarksSpec : ChangeSpec := { name := "fnExactSortMarks", fn := fun _ => fun
  | [d] => { results := [.lit (.bool true)], args := [d] }
  | _ => none }
def fnExactSortMarksRow : OpenClaim := { program := "ytaeaeejfaffbpaa", sum := "be2c208627b48b47e79d37511123cc75df27b98244c144355b6668bbb335057c", func := "loop.example/g00692/laws.FnExactSortMarks", spec := "fnExactSortMarks", unfollowed := true, recurses := true, apart := false }
def FnExactSortMarksSaid : Prop := fnExactSortMarksRow.holds Try.pinned (OpenSpec.ofChange fnExactSortMarksSpec)

/-- ITS FALSE NEIGHBOUR: 'it returns false'. Refute it at one input. -/
def fnExactSortMarksWrong : ChangeSpec := { name := "fnExactSortMarks", fn := fun _ => fun
  | [d] => { results := [.lit (.bool false)], args := [d] }
  | _ => none }
def FnExactSortMarksWrongFalsely : Prop := fnExactSortMarksRow.holds Try.pinned (OpenSpec.ofChange fnExactSortMarksWrong)

/-- 'laws.FnExactGoodDfa': WHATEVER THE INPUT: true; the input reads as it did. -/
def fnExactGoodDfaSpec : ChangeSpec := { name := "fnExactGoodDfa", fn := fun _ => fun
  | [d] => { results := [.lit (.bool true)], args := [d] }
  | _ => none }
def fnExactGoodDfaRow : OpenClaim := { program := "ytaeaeejfaffbpaa", sum := "be2c208627b48b47e79d37511123cc75df27b98244c144355b6668bbb335057c", func := "loop.example/g00692/laws.FnExactGoodDfa", spec := "fnExactGoodDfa", unfollowed := true, recurses := true, apart := false }
def FnExactGoodDfaSaid : Prop := fnExactGoodDfaRow.holds Try.pinned (OpenSpec.ofChange fnExactGoodDfaSpec)

/-- ITS FALSE NEIGHBOUR: 'it returns false'. Refute it at one input. -/
def fnExactGoodDfaWrong : ChangeSpec := { name := "fnExactGoodDfa", fn := fun _ => fun
  | [d] => { results := [.lit (.bool false)], args := [d] }
  | _ => none }
def FnExactGoodDfaWrongFalsely : Prop := fnExactGoodDfaRow.holds Try.pinned (OpenSpec.ofChange fnExactGoodDfaWrong)

/-- 'laws.FnExactGoodNfa': WHATEVER THE INPUT: true; the input reads as it did. -/
def fnExactGoodNfaSpec : ChangeSpec := { name := "fnExactGoodNfa", fn := fun _ => fun
  | [d] => { results := [.lit (.bool true)], args := [d] }
  | _ => none }
def fnExactGoodNfaRow : OpenClaim := { program := "ytaeaeejfaffbpaa", sum := "be2c208627b48b47e79d37511123cc75df27b98244c144355b6668bbb335057c", func := "loop.example/g00692/laws.FnExactGoodNfa", spec := "fnExactGoodNfa", unfollowed := true, recurses := true, apart := false }
def FnExactGoodNfaSaid : Prop := fnExactGoodNfaRow.holds Try.pinned (OpenSpec.ofChange fnExactGoodNfaSpec)

/-- ITS FALSE NEIGHBOUR: 'it returns false'. Refute it at one input. -/
def fnExactGoodNfaWrong : ChangeSpec := { name := "fnExactGoodNfa", fn := fun _ => fun
  | [d] => { results := [.lit (.bool false)], args := [d] }
  | _ => none }
def FnExactGoodNfaWrongFalsely : Prop := fnExactGoodNfaRow.holds Try.pinned (OpenSpec.ofChange fnExactGoodNfaWrong)

/-- 'laws.FnExactRunDfa': WHATEVER THE INPUT: true; the input reads as it did. -/
def fnExactRunDfaSpec : ChangeSpec := { name := "fnExactRunDfa", fn := fun _ => fun
  | [d1, d2] => { results := [.lit (.bool true)], args := [d1, d2] }
  | _ => none }
def fnExactRunDfaRow : OpenClaim := { program := "ytaeaeejfaffbpaa", sum := "be2c208627b48b47e79d37511123cc75df27b98244c144355b6668bbb335057c", func := "loop.example/g00692/laws.FnExactRunDfa", spec := "fnExactRunDfa", unfollowed := true, recurses := true, apart := false }
def FnExactRunDfaSaid : Prop := fnExactRunDfaRow.holds Try.pinned (OpenSpec.ofChange fnExactRunDfaSpec)

/-- ITS FALSE NEIGHBOUR: 'it returns false'. Refute it at one input. -/
def fnExactRunDfaWrong : ChangeSpec := { name := "fnExactRunDfa", fn := fun _ => fun
  | [d1, d2] => { results := [.lit (.bool false)], args := [d1, d2] }
  | _ => none }
def FnExactRunDfaWrongFalsely : Prop := fnExactRunDfaRow.holds Try.pinned (OpenSpec.ofChange fnExactRunDfaWrong)

/-- 'laws.FnExactIsNoneDfa': WHATEVER THE INPUT: true; the input reads as it did. -/
def fnExactIsNoneDfaSpec : ChangeSpec := { name := "fnExactIsNoneDfa", fn := fun _ => fun
  | [d] => { results := [.lit (.bool true)], args := [d] }
  | _ => none }
def fnExactIsNoneDfaRow : OpenClaim := { program := "ytaeaeejfaffbpaa", sum := "be2c208627b48b47e79d37511123cc75df27b98244c144355b6668bbb335057c", func := "loop.example/g00692/laws.FnExactIsNoneDfa", spec := "fnExactIsNoneDfa", unfollowed := true, recurses := true, apart := false }
def FnExactIsNoneDfaSaid : Prop := fnExactIsNoneDfaRow.holds Try.pinned (OpenSpec.ofChange fnExactIsNoneDfaSpec)

/-- ITS FALSE NEIGHBOUR: 'it returns false'. Refute it at one input. -/
def fnExactIsNoneDfaWrong : ChangeSpec := { name := "fnExactIsNoneDfa", fn := fun _ => fun
  | [d] => { results := [.lit (.bool false)], args := [d] }
  | _ => none }
def FnExactIsNoneDfaWrongFalsely : Prop := fnExactIsNoneDfaRow.holds Try.pinned (OpenSpec.ofChange fnExactIsNoneDfaWrong)

/- THE SECOND FORM. 'bulk': how many values and letters a reading holds, each counted each time it is reached (what is shared counts as often as it is met; a slice's spare places count too). A statement '..UptoSaid' is the law's where the arguments, and the package variables that the reading takes, are together of bulk at most 1048576: NARROWER than '..Said'. Prove '..Said' where nothing that the law and all that it calls make is longer than what came in: it says more and counts as full. Else prove '..UptoSaid'. A law counts once. -/
mutual
def uptoBulk {H : Type} : DataW H → Nat
  | .lit (.string bytes) => bytes.length + 1
  | .lit _ => 1
  | .nil => 1
  | .ptr d => uptoBulk d + 1
  | .slice elems spare => uptoBulkAll elems + uptoBulkAll spare + 1
  | .agg parts => uptoBulkAll parts + 1
  | .iface _ d => uptoBulk d + 1
  | .map entries => uptoBulkEntries entries + 1
  | .held _ => 1
def uptoBulkAll {H : Type} : List (DataW H) → Nat
  | [] => 0
  | d :: r => uptoBulk d + uptoBulkAll r
def uptoBulkEntries {H : Type} : List (Lit × DataW H) → Nat
  | [] => 0
  | x :: r => uptoBulkEntry x + uptoBulkEntries r
def uptoBulkEntry {H : Type} : Lit × DataW H → Nat
  | (.string bytes, d) => bytes.length + uptoBulk d + 1
  | (_, d) => uptoBulk d + 1
 end
def uptoSmall : (H : Type) → List (DataW H) → Bool := fun _ ds => decide (uptoBulkAll ds ≤ 1048576)
def OpenSpec.upto (s : _root_.Go.ChangeSpec) : _root_.Go.OpenSpec := { _root_.Go.OpenSpec.ofChange s with cond := some uptoSmall }

/-- 'laws.FnExactSplitAll', WHERE WHAT IT READS IS OF BULK AT MOST 1048576: true; the input reads as it did. -/
def fnExactSplitAllUptoRow : OpenClaim := { program := "ytaeaeejfaffbpaa", sum := "be2c208627b48b47e79d37511123cc75df27b98244c144355b6668bbb335057c", func := "loop.example/g00692/laws.FnExactSplitAll", spec := "fnExactSplitAll", unfollowed := true, recurses := true, apart := false, narrowed := true }
def FnExactSplitAllUptoSaid : Prop := fnExactSplitAllUptoRow.holds Try.pinned (OpenSpec.upto fnExactSplitAllSpec)

/-- 'laws.FnExactSortMarks', WHERE WHAT IT READS IS OF BULK AT MOST 1048576: true; the input reads as it did. -/
def fnExactSortMarksUptoRow : OpenClaim := { program := "ytaeaeejfaffbpaa", sum := "be2c208627b48b47e79d37511123cc75df27b98244c144355b6668bbb335057c", func := "loop.example/g00692/laws.FnExactSortMarks", spec := "fnExactSortMarks", unfollowed := true, recurses := true, apart := false, narrowed := true }
def FnExactSortMarksUptoSaid : Prop := fnExactSortMarksUptoRow.holds Try.pinned (OpenSpec.upto fnExactSortMarksSpec)

/-- 'laws.FnExactGoodDfa', WHERE WHAT IT READS IS OF BULK AT MOST 1048576: true; the input reads as it did. -/
def fnExactGoodDfaUptoRow : OpenClaim := { program := "ytaeaeejfaffbpaa", sum := "be2c208627b48b47e79d37511123cc75df27b98244c144355b6668bbb335057c", func := "loop.example/g00692/laws.FnExactGoodDfa", spec := "fnExactGoodDfa", unfollowed := true, recurses := true, apart := false, narrowed := true }
def FnExactGoodDfaUptoSaid : Prop := fnExactGoodDfaUptoRow.holds Try.pinned (OpenSpec.upto fnExactGoodDfaSpec)

/-- 'laws.FnExactGoodNfa', WHERE WHAT IT READS IS OF BULK AT MOST 1048576: true; the input reads as it did. -/
def fnExactGoodNfaUptoRow : OpenClaim := { program := "ytaeaeejfaffbpaa", sum := "be2c208627b48b47e79d37511123cc75df27b98244c144355b6668bbb335057c", func := "loop.example/g00692/laws.FnExactGoodNfa", spec := "fnExactGoodNfa", unfollowed := true, recurses := true, apart := false, narrowed := true }
def FnExactGoodNfaUptoSaid : Prop := fnExactGoodNfaUptoRow.holds Try.pinned (OpenSpec.upto fnExactGoodNfaSpec)

/-- 'laws.FnExactRunDfa', WHERE WHAT IT READS IS OF BULK AT MOST 1048576: true; the input reads as it did. -/
def fnExactRunDfaUptoRow : OpenClaim := { program := "ytaeaeejfaffbpaa", sum := "be2c208627b48b47e79d37511123cc75df27b98244c144355b6668bbb335057c", func := "loop.example/g00692/laws.FnExactRunDfa", spec := "fnExactRunDfa", unfollowed := true, recurses := true, apart := false, narrowed := true }
def FnExactRunDfaUptoSaid : Prop := fnExactRunDfaUptoRow.holds Try.pinned (OpenSpec.upto fnExactRunDfaSpec)

/-- 'laws.FnExactIsNoneDfa', WHERE WHAT IT READS IS OF BULK AT MOST 1048576: true; the input reads as it did. -/
def fnExactIsNoneDfaUptoRow : OpenClaim := { program := "ytaeaeejfaffbpaa", sum := "be2c208627b48b47e79d37511123cc75df27b98244c144355b6668bbb335057c", func := "loop.example/g00692/laws.FnExactIsNoneDfa", spec := "fnExactIsNoneDfa", unfollowed := true, recurses := true, apart := false, narrowed := true }
def FnExactIsNoneDfaUptoSaid : Prop := fnExactIsNoneDfaUptoRow.holds Try.pinned (OpenSpec.upto fnExactIsNoneDfaSpec)

end Rows
end Go.Proofs.Ytaeaeejfaffbpaa
