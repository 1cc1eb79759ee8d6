/-
  No cell of these rows narrows 'for every input' (looked for: loops, veiled, ifaces, maps, wideKeys, modest, calm, conditions, laid).
  DERIVED. THE GIVEN ROWS OF THIS SEAT. 15 by the template 'for every input the law returns true; each argument reads behind the call as it read before'; 0 by the template 'total and deterministic' (their statements: YteioeojpomahgaaTotals.lean).
  GIVEN WITH THE SEED: the statements are not yours to turn. If you find one false, say at which input.
  Laid BY PROGRAM, IN A SANDBOX (cutbox-rows.mjs): the forced cells as the released guide's own fill.sh prints them over the translation a29543716846da82… (all of the seat's roots in one cut). By AI agents, Wed Nov 11 2026. No macro, syntax, notation, axiom, sorry.
-/
import Derived.Test.YteioeojpomahgaaChecked
import GoSem.Claim
import GoSem.ClaimJoined
import GoSem.ClaimMapViews
import Derived.JoinedTies
import Derived.KernelRfl
namespace Go.Proofs.Yteioeojpomahgaa
/- THE CELL 'sum', in the pinned program and in every row, IS THE sha256 OF THE DUMP (.gsa) THAT YteioeojpomahgaaProg.lean LOADS. Nothing in Lean hashes anything: it is a label: what it is worth is what the hold of that sum in a sandbox is worth. -/
noncomputable def Try.pinned : Pinned := { name := "yteioeojpomahgaa", sum := "a29543716846da82640955214d8f5183c07a9e3b4ae1c9bd389f29523a632f05", checked := Try.checked }
namespace Rows
def none {H : Type} : Left H := { results := [], args := [] }

/-- 'laws.FnExactSystemIn': WHATEVER THE INPUT: true; the input reads as it did. -/
def fnExactSystemInSpec : ChangeSpec := { name := "fnExactSystemIn", fn := fun _ => fun
  | [d] => { results := [.lit (.bool true)], args := [d] }
  | _ => none }
def fnExactSystemInRow : OpenClaim := { program := "yteioeojpomahgaa", sum := "a29543716846da82640955214d8f5183c07a9e3b4ae1c9bd389f29523a632f05", func := "loop.example/nineplanes/laws.FnExactSystemIn", spec := "fnExactSystemIn", unfollowed := true, recurses := true, apart := false }
def FnExactSystemInSaid : Prop := fnExactSystemInRow.holds Try.pinned (OpenSpec.ofChange fnExactSystemInSpec)

/-- ITS FALSE NEIGHBOUR: 'it returns false'. Refute it at one input. -/
def fnExactSystemInWrong : ChangeSpec := { name := "fnExactSystemIn", fn := fun _ => fun
  | [d] => { results := [.lit (.bool false)], args := [d] }
  | _ => none }
def FnExactSystemInWrongFalsely : Prop := fnExactSystemInRow.holds Try.pinned (OpenSpec.ofChange fnExactSystemInWrong)

/-- 'laws.FnExactSystemBoth': WHATEVER THE INPUT: true; the input reads as it did. -/
def fnExactSystemBothSpec : ChangeSpec := { name := "fnExactSystemBoth", fn := fun _ => fun
  | [d] => { results := [.lit (.bool true)], args := [d] }
  | _ => none }
def fnExactSystemBothRow : OpenClaim := { program := "yteioeojpomahgaa", sum := "a29543716846da82640955214d8f5183c07a9e3b4ae1c9bd389f29523a632f05", func := "loop.example/nineplanes/laws.FnExactSystemBoth", spec := "fnExactSystemBoth", unfollowed := true, recurses := true, apart := false }
def FnExactSystemBothSaid : Prop := fnExactSystemBothRow.holds Try.pinned (OpenSpec.ofChange fnExactSystemBothSpec)

/-- ITS FALSE NEIGHBOUR: 'it returns false'. Refute it at one input. -/
def fnExactSystemBothWrong : ChangeSpec := { name := "fnExactSystemBoth", fn := fun _ => fun
  | [d] => { results := [.lit (.bool false)], args := [d] }
  | _ => none }
def FnExactSystemBothWrongFalsely : Prop := fnExactSystemBothRow.holds Try.pinned (OpenSpec.ofChange fnExactSystemBothWrong)

/-- 'laws.FnExactSystemBrackets': WHATEVER THE INPUT: true; the input reads as it did. -/
def fnExactSystemBracketsSpec : ChangeSpec := { name := "fnExactSystemBrackets", fn := fun _ => fun
  | [d] => { results := [.lit (.bool true)], args := [d] }
  | _ => none }
def fnExactSystemBracketsRow : OpenClaim := { program := "yteioeojpomahgaa", sum := "a29543716846da82640955214d8f5183c07a9e3b4ae1c9bd389f29523a632f05", func := "loop.example/nineplanes/laws.FnExactSystemBrackets", spec := "fnExactSystemBrackets", unfollowed := true, recurses := true, apart := false }
def FnExactSystemBracketsSaid : Prop := fnExactSystemBracketsRow.holds Try.pinned (OpenSpec.ofChange fnExactSystemBracketsSpec)

/-- ITS FALSE NEIGHBOUR: 'it returns false'. Refute it at one input. -/
def fnExactSystemBracketsWrong : ChangeSpec := { name := "fnExactSystemBrackets", fn := fun _ => fun
  | [d] => { results := [.lit (.bool false)], args := [d] }
  | _ => none }
def FnExactSystemBracketsWrongFalsely : Prop := fnExactSystemBracketsRow.holds Try.pinned (OpenSpec.ofChange fnExactSystemBracketsWrong)

/-- 'laws.FnExactSystemSolve': WHATEVER THE INPUT: true; the input reads as it did. -/
def fnExactSystemSolveSpec : ChangeSpec := { name := "fnExactSystemSolve", fn := fun _ => fun
  | [d1, d2, d3] => { results := [.lit (.bool true)], args := [d1, d2, d3] }
  | _ => none }
def fnExactSystemSolveRow : OpenClaim := { program := "yteioeojpomahgaa", sum := "a29543716846da82640955214d8f5183c07a9e3b4ae1c9bd389f29523a632f05", func := "loop.example/nineplanes/laws.FnExactSystemSolve", spec := "fnExactSystemSolve", unfollowed := true, recurses := true, apart := false }
def FnExactSystemSolveSaid : Prop := fnExactSystemSolveRow.holds Try.pinned (OpenSpec.ofChange fnExactSystemSolveSpec)

/-- ITS FALSE NEIGHBOUR: 'it returns false'. Refute it at one input. -/
def fnExactSystemSolveWrong : ChangeSpec := { name := "fnExactSystemSolve", fn := fun _ => fun
  | [d1, d2, d3] => { results := [.lit (.bool false)], args := [d1, d2, d3] }
  | _ => none }
def FnExactSystemSolveWrongFalsely : Prop := fnExactSystemSolveRow.holds Try.pinned (OpenSpec.ofChange fnExactSystemSolveWrong)

/-- 'laws.FnExactSystemSwaps': WHATEVER THE INPUT: true; the input reads as it did. -/
def fnExactSystemSwapsSpec : ChangeSpec := { name := "fnExactSystemSwaps", fn := fun _ => fun
  | [d] => { results := [.lit (.bool true)], args := [d] }
  | _ => none }
def fnExactSystemSwapsRow : OpenClaim := { program := "yteioeojpomahgaa", sum := "a29543716846da82640955214d8f5183c07a9e3b4ae1c9bd389f29523a632f05", func := "loop.example/nineplanes/laws.FnExactSystemSwaps", spec := "fnExactSystemSwaps", unfollowed := true, recurses := true, apart := false }
def FnExactSystemSwapsSaid : Prop := fnExactSystemSwapsRow.holds Try.pinned (OpenSpec.ofChange fnExactSystemSwapsSpec)

/-- ITS FALSE NEIGHBOUR: 'it returns false'. Refute it at one input. -/
def fnExactSystemSwapsWrong : ChangeSpec := { name := "fnExactSystemSwaps", fn := fun _ => fun
  | [d] => { results := [.lit (.bool false)], args := [d] }
  | _ => none }
def FnExactSystemSwapsWrongFalsely : Prop := fnExactSystemSwapsRow.holds Try.pinned (OpenSpec.ofChange fnExactSystemSwapsWrong)

/-- 'laws.FnExactSystemCentre': WHATEVER THE INPUT: true; the input reads as it did. -/
def fnExactSystemCentreSpec : ChangeSpec := { name := "fnExactSystemCentre", fn := fun _ => fun
  | [d] => { results := [.lit (.bool true)], args := [d] }
  | _ => none }
def fnExactSystemCentreRow : OpenClaim := { program := "yteioeojpomahgaa", sum := "a29543716846da82640955214d8f5183c07a9e3b4ae1c9bd389f29523a632f05", func := "loop.example/nineplanes/laws.FnExactSystemCentre", spec := "fnExactSystemCentre", unfollowed := true, recurses := true, apart := false }
def FnExactSystemCentreSaid : Prop := fnExactSystemCentreRow.holds Try.pinned (OpenSpec.ofChange fnExactSystemCentreSpec)

/-- ITS FALSE NEIGHBOUR: 'it returns false'. Refute it at one input. -/
def fnExactSystemCentreWrong : ChangeSpec := { name := "fnExactSystemCentre", fn := fun _ => fun
  | [d] => { results := [.lit (.bool false)], args := [d] }
  | _ => none }
def FnExactSystemCentreWrongFalsely : Prop := fnExactSystemCentreRow.holds Try.pinned (OpenSpec.ofChange fnExactSystemCentreWrong)

/-- 'laws.FnExactSystemKernel': WHATEVER THE INPUT: true; the input reads as it did. -/
def fnExactSystemKernelSpec : ChangeSpec := { name := "fnExactSystemKernel", fn := fun _ => fun
  | [d] => { results := [.lit (.bool true)], args := [d] }
  | _ => none }
def fnExactSystemKernelRow : OpenClaim := { program := "yteioeojpomahgaa", sum := "a29543716846da82640955214d8f5183c07a9e3b4ae1c9bd389f29523a632f05", func := "loop.example/nineplanes/laws.FnExactSystemKernel", spec := "fnExactSystemKernel", unfollowed := true, recurses := true, apart := false }
def FnExactSystemKernelSaid : Prop := fnExactSystemKernelRow.holds Try.pinned (OpenSpec.ofChange fnExactSystemKernelSpec)

/-- ITS FALSE NEIGHBOUR: 'it returns false'. Refute it at one input. -/
def fnExactSystemKernelWrong : ChangeSpec := { name := "fnExactSystemKernel", fn := fun _ => fun
  | [d] => { results := [.lit (.bool false)], args := [d] }
  | _ => none }
def FnExactSystemKernelWrongFalsely : Prop := fnExactSystemKernelRow.holds Try.pinned (OpenSpec.ofChange fnExactSystemKernelWrong)

/-- 'laws.FnSystemOf': WHATEVER THE INPUT: true; the input reads as it did. -/
def fnSystemOfSpec : ChangeSpec := { name := "fnSystemOf", fn := fun _ => fun
  | [d] => { results := [.lit (.bool true)], args := [d] }
  | _ => none }
def fnSystemOfRow : OpenClaim := { program := "yteioeojpomahgaa", sum := "a29543716846da82640955214d8f5183c07a9e3b4ae1c9bd389f29523a632f05", func := "loop.example/nineplanes/laws.FnSystemOf", spec := "fnSystemOf", unfollowed := true, recurses := true, apart := false }
def FnSystemOfSaid : Prop := fnSystemOfRow.holds Try.pinned (OpenSpec.ofChange fnSystemOfSpec)

/-- ITS FALSE NEIGHBOUR: 'it returns false'. Refute it at one input. -/
def fnSystemOfWrong : ChangeSpec := { name := "fnSystemOf", fn := fun _ => fun
  | [d] => { results := [.lit (.bool false)], args := [d] }
  | _ => none }
def FnSystemOfWrongFalsely : Prop := fnSystemOfRow.holds Try.pinned (OpenSpec.ofChange fnSystemOfWrong)

/-- 'laws.FnSystem': WHATEVER THE INPUT: true; the input reads as it did. -/
def fnSystemSpec : ChangeSpec := { name := "fnSystem", fn := fun _ => fun
  | [d] => { results := [.lit (.bool true)], args := [d] }
  | _ => none }
def fnSystemRow : OpenClaim := { program := "yteioeojpomahgaa", sum := "a29543716846da82640955214d8f5183c07a9e3b4ae1c9bd389f29523a632f05", func := "loop.example/nineplanes/laws.FnSystem", spec := "fnSystem", unfollowed := true, recurses := true, apart := false }
def FnSystemSaid : Prop := fnSystemRow.holds Try.pinned (OpenSpec.ofChange fnSystemSpec)

/-- ITS FALSE NEIGHBOUR: 'it returns false'. Refute it at one input. -/
def fnSystemWrong : ChangeSpec := { name := "fnSystem", fn := fun _ => fun
  | [d] => { results := [.lit (.bool false)], args := [d] }
  | _ => none }
def FnSystemWrongFalsely : Prop := fnSystemRow.holds Try.pinned (OpenSpec.ofChange fnSystemWrong)

/-- 'laws.FnBrackets': WHATEVER THE INPUT: true; the input reads as it did. -/
def fnBracketsSpec : ChangeSpec := { name := "fnBrackets", fn := fun _ => fun
  | [d] => { results := [.lit (.bool true)], args := [d] }
  | _ => none }
def fnBracketsRow : OpenClaim := { program := "yteioeojpomahgaa", sum := "a29543716846da82640955214d8f5183c07a9e3b4ae1c9bd389f29523a632f05", func := "loop.example/nineplanes/laws.FnBrackets", spec := "fnBrackets", unfollowed := true, recurses := true, apart := false }
def FnBracketsSaid : Prop := fnBracketsRow.holds Try.pinned (OpenSpec.ofChange fnBracketsSpec)

/-- ITS FALSE NEIGHBOUR: 'it returns false'. Refute it at one input. -/
def fnBracketsWrong : ChangeSpec := { name := "fnBrackets", fn := fun _ => fun
  | [d] => { results := [.lit (.bool false)], args := [d] }
  | _ => none }
def FnBracketsWrongFalsely : Prop := fnBracketsRow.holds Try.pinned (OpenSpec.ofChange fnBracketsWrong)

/-- 'laws.FnSolve': WHATEVER THE INPUT: true; the input reads as it did. -/
def fnSolveSpec : ChangeSpec := { name := "fnSolve", fn := fun _ => fun
  | [d] => { results := [.lit (.bool true)], args := [d] }
  | _ => none }
def fnSolveRow : OpenClaim := { program := "yteioeojpomahgaa", sum := "a29543716846da82640955214d8f5183c07a9e3b4ae1c9bd389f29523a632f05", func := "loop.example/nineplanes/laws.FnSolve", spec := "fnSolve", unfollowed := true, recurses := true, apart := false }
def FnSolveSaid : Prop := fnSolveRow.holds Try.pinned (OpenSpec.ofChange fnSolveSpec)

/-- ITS FALSE NEIGHBOUR: 'it returns false'. Refute it at one input. -/
def fnSolveWrong : ChangeSpec := { name := "fnSolve", fn := fun _ => fun
  | [d] => { results := [.lit (.bool false)], args := [d] }
  | _ => none }
def FnSolveWrongFalsely : Prop := fnSolveRow.holds Try.pinned (OpenSpec.ofChange fnSolveWrong)

/-- 'laws.FnSwaps': WHATEVER THE INPUT: true; the input reads as it did. -/
def fnSwapsSpec : ChangeSpec := { name := "fnSwaps", fn := fun _ => fun
  | [d] => { results := [.lit (.bool true)], args := [d] }
  | _ => none }
def fnSwapsRow : OpenClaim := { program := "yteioeojpomahgaa", sum := "a29543716846da82640955214d8f5183c07a9e3b4ae1c9bd389f29523a632f05", func := "loop.example/nineplanes/laws.FnSwaps", spec := "fnSwaps", unfollowed := true, recurses := true, apart := false }
def FnSwapsSaid : Prop := fnSwapsRow.holds Try.pinned (OpenSpec.ofChange fnSwapsSpec)

/-- ITS FALSE NEIGHBOUR: 'it returns false'. Refute it at one input. -/
def fnSwapsWrong : ChangeSpec := { name := "fnSwaps", fn := fun _ => fun
  | [d] => { results := [.lit (.bool false)], args := [d] }
  | _ => none }
def FnSwapsWrongFalsely : Prop := fnSwapsRow.holds Try.pinned (OpenSpec.ofChange fnSwapsWrong)

/-- 'laws.FnCentre': WHATEVER THE INPUT: true; the input reads as it did. -/
def fnCentreSpec : ChangeSpec := { name := "fnCentre", fn := fun _ => fun
  | [d] => { results := [.lit (.bool true)], args := [d] }
  | _ => none }
def fnCentreRow : OpenClaim := { program := "yteioeojpomahgaa", sum := "a29543716846da82640955214d8f5183c07a9e3b4ae1c9bd389f29523a632f05", func := "loop.example/nineplanes/laws.FnCentre", spec := "fnCentre", unfollowed := true, recurses := true, apart := false }
def FnCentreSaid : Prop := fnCentreRow.holds Try.pinned (OpenSpec.ofChange fnCentreSpec)

/-- ITS FALSE NEIGHBOUR: 'it returns false'. Refute it at one input. -/
def fnCentreWrong : ChangeSpec := { name := "fnCentre", fn := fun _ => fun
  | [d] => { results := [.lit (.bool false)], args := [d] }
  | _ => none }
def FnCentreWrongFalsely : Prop := fnCentreRow.holds Try.pinned (OpenSpec.ofChange fnCentreWrong)

/-- 'laws.FnBoth': WHATEVER THE INPUT: true; the input reads as it did. -/
def fnBothSpec : ChangeSpec := { name := "fnBoth", fn := fun _ => fun
  | [d] => { results := [.lit (.bool true)], args := [d] }
  | _ => none }
def fnBothRow : OpenClaim := { program := "yteioeojpomahgaa", sum := "a29543716846da82640955214d8f5183c07a9e3b4ae1c9bd389f29523a632f05", func := "loop.example/nineplanes/laws.FnBoth", spec := "fnBoth", unfollowed := true, recurses := true, apart := false }
def FnBothSaid : Prop := fnBothRow.holds Try.pinned (OpenSpec.ofChange fnBothSpec)

/-- ITS FALSE NEIGHBOUR: 'it returns false'. Refute it at one input. -/
def fnBothWrong : ChangeSpec := { name := "fnBoth", fn := fun _ => fun
  | [d] => { results := [.lit (.bool false)], args := [d] }
  | _ => none }
def FnBothWrongFalsely : Prop := fnBothRow.holds Try.pinned (OpenSpec.ofChange fnBothWrong)

/-- 'laws.FnKernel': WHATEVER THE INPUT: true; the input reads as it did. -/
def fnKernelSpec : ChangeSpec := { name := "fnKernel", fn := fun _ => fun
  | [d] => { results := [.lit (.bool true)], args := [d] }
  | _ => none }
def fnKernelRow : OpenClaim := { program := "yteioeojpomahgaa", sum := "a29543716846da82640955214d8f5183c07a9e3b4ae1c9bd389f29523a632f05", func := "loop.example/nineplanes/laws.FnKernel", spec := "fnKernel", unfollowed := true, recurses := true, apart := false }
def FnKernelSaid : Prop := fnKernelRow.holds Try.pinned (OpenSpec.ofChange fnKernelSpec)

/-- ITS FALSE NEIGHBOUR: 'it returns false'. Refute it at one input. -/
def fnKernelWrong : ChangeSpec := { name := "fnKernel", fn := fun _ => fun
  | [d] => { results := [.lit (.bool false)], args := [d] }
  | _ => none }
def FnKernelWrongFalsely : Prop := fnKernelRow.holds Try.pinned (OpenSpec.ofChange fnKernelWrong)

/- THE SECOND FORM. 'bulk': how many values and letters a reading holds, each counted each time it is reached (what is shared counts as often as it is met; a slice's spare places count too). A statement '..UptoSaid' is the law's where the arguments, and the package variables that the reading takes, are together of bulk at most 1048576: NARROWER than '..Said'. Prove '..Said' where nothing that the law and all that it calls make is longer than what came in: it says more and counts as full. Else prove '..UptoSaid'. A law counts once. -/
mutual
def uptoBulk {H : Type} : DataW H → Nat
  | .lit (.string bytes) => bytes.length + 1
  | .lit _ => 1
  | .nil => 1
  | .ptr d => uptoBulk d + 1
  | .slice elems spare => uptoBulkAll elems + uptoBulkAll spare + 1
  | .agg parts => uptoBulkAll parts + 1
  | .iface _ d => uptoBulk d + 1
  | .map entries => uptoBulkEntries entries + 1
  | .held _ => 1
def uptoBulkAll {H : Type} : List (DataW H) → Nat
  | [] => 0
  | d :: r => uptoBulk d + uptoBulkAll r
def uptoBulkEntries {H : Type} : List (Lit × DataW H) → Nat
  | [] => 0
  | x :: r => uptoBulkEntry x + uptoBulkEntries r
def uptoBulkEntry {H : Type} : Lit × DataW H → Nat
  | (.string bytes, d) => bytes.length + uptoBulk d + 1
  | (_, d) => uptoBulk d + 1
 end
def uptoSmall : (H : Type) → List (DataW H) → Bool := fun _ ds => decide (uptoBulkAll ds ≤ 1048576)
def OpenSpec.upto (s : _root_.Go.ChangeSpec) : _root_.Go.OpenSpec := { _root_.Go.OpenSpec.ofChange s with cond := some uptoSmall }

/-- 'laws.FnExactSystemIn', WHERE WHAT IT READS IS OF BULK AT MOST 1048576: true; the input reads as it did. -/
def fnExactSystemInUptoRow : OpenClaim := { program := "yteioeojpomahgaa", sum := "a29543716846da82640955214d8f5183c07a9e3b4ae1c9bd389f29523a632f05", func := "loop.example/nineplanes/laws.FnExactSystemIn", spec := "fnExactSystemIn", unfollowed := true, recurses := true, apart := false, narrowed := true }
def FnExactSystemInUptoSaid : Prop := fnExactSystemInUptoRow.holds Try.pinned (OpenSpec.upto fnExactSystemInSpec)

/-- 'laws.FnExactSystemBoth', WHERE WHAT IT READS IS OF BULK AT MOST 1048576: true; the input reads as it did. -/
def fnExactSystemBothUptoRow : OpenClaim := { program := "yteioeojpomahgaa", sum := "a29543716846da82640955214d8f5183c07a9e3b4ae1c9bd389f29523a632f05", func := "loop.example/nineplanes/laws.FnExactSystemBoth", spec := "fnExactSystemBoth", unfollowed := true, recurses := true, apart := false, narrowed := true }
def FnExactSystemBothUptoSaid : Prop := fnExactSystemBothUptoRow.holds Try.pinned (OpenSpec.upto fnExactSystemBothSpec)

/-- 'laws.FnExactSystemBrackets', WHERE WHAT IT READS IS OF BULK AT MOST 1048576: true; the input reads as it did. -/
def fnExactSystemBracketsUptoRow : OpenClaim := { program := "yteioeojpomahgaa", sum := "a29543716846da82640955214d8f5183c07a9e3b4ae1c9bd389f29523a632f05", func := "loop.example/nineplanes/laws.FnExactSystemBrackets", spec := "fnExactSystemBrackets", unfollowed := true, recurses := true, apart := false, narrowed := true }
def FnExactSystemBracketsUptoSaid : Prop := fnExactSystemBracketsUptoRow.holds Try.pinned (OpenSpec.upto fnExactSystemBracketsSpec)

/-- 'laws.FnExactSystemSolve', WHERE WHAT IT READS IS OF BULK AT MOST 1048576: true; the input reads as it did. -/
def fnExactSystemSolveUptoRow : OpenClaim := { program := "yteioeojpomahgaa", sum := "a29543716846da82640955214d8f5183c07a9e3b4ae1c9bd389f29523a632f05", func := "loop.example/nineplanes/laws.FnExactSystemSolve", spec := "fnExactSystemSolve", unfollowed := true, recurses := true, apart := false, narrowed := true }
def FnExactSystemSolveUptoSaid : Prop := fnExactSystemSolveUptoRow.holds Try.pinned (OpenSpec.upto fnExactSystemSolveSpec)

/-- 'laws.FnExactSystemSwaps', WHERE WHAT IT READS IS OF BULK AT MOST 1048576: true; the input reads as it did. -/
def fnExactSystemSwapsUptoRow : OpenClaim := { program := "yteioeojpomahgaa", sum := "a29543716846da82640955214d8f5183c07a9e3b4ae1c9bd389f29523a632f05", func := "loop.example/nineplanes/laws.FnExactSystemSwaps", spec := "fnExactSystemSwaps", unfollowed := true, recurses := true, apart := false, narrowed := true }
def FnExactSystemSwapsUptoSaid : Prop := fnExactSystemSwapsUptoRow.holds Try.pinned (OpenSpec.upto fnExactSystemSwapsSpec)

/-- 'laws.FnExactSystemCentre', WHERE WHAT IT READS IS OF BULK AT MOST 1048576: true; the input reads as it did. -/
def fnExactSystemCentreUptoRow : OpenClaim := { program := "yteioeojpomahgaa", sum := "a29543716846da82640955214d8f5183c07a9e3b4ae1c9bd389f29523a632f05", func := "loop.example/nineplanes/laws.FnExactSystemCentre", spec := "fnExactSystemCentre", unfollowed := true, recurses := true, apart := false, narrowed := true }
def FnExactSystemCentreUptoSaid : Prop := fnExactSystemCentreUptoRow.holds Try.pinned (OpenSpec.upto fnExactSystemCentreSpec)

/-- 'laws.FnExactSystemKernel', WHERE WHAT IT READS IS OF BULK AT MOST 1048576: true; the input reads as it did. -/
def fnExactSystemKernelUptoRow : OpenClaim := { program := "yteioeojpomahgaa", sum := "a29543716846da82640955214d8f5183c07a9e3b4ae1c9bd389f29523a632f05", func := "loop.example/nineplanes/laws.FnExactSystemKernel", spec := "fnExactSystemKernel", unfollowed := true, recurses := true, apart := false, narrowed := true }
def FnExactSystemKernelUptoSaid : Prop := fnExactSystemKernelUptoRow.holds Try.pinned (OpenSpec.upto fnExactSystemKernelSpec)

/-- 'laws.FnSystemOf', WHERE WHAT IT READS IS OF BULK AT MOST 1048576: true; the input reads as it did. -/
def fnSystemOfUptoRow : OpenClaim := { program := "yteioeojpomahgaa", sum := "a29543716846da82640955214d8f5183c07a9e3b4ae1c9bd389f29523a632f05", func := "loop.example/nineplanes/laws.FnSystemOf", spec := "fnSystemOf", unfollowed := true, recurses := true, apart := false, narrowed := true }
def FnSystemOfUptoSaid : Prop := fnSystemOfUptoRow.holds Try.pinned (OpenSpec.upto fnSystemOfSpec)

/-- 'laws.FnSystem', WHERE WHAT IT READS IS OF BULK AT MOST 1048576: true; the input reads as it did. -/
def fnSystemUptoRow : OpenClaim := { program := "yteioeojpomahgaa", sum := "a29543716846da82640955214d8f5183c07a9e3b4ae1c9bd389f29523a632f05", func := "loop.example/nineplanes/laws.FnSystem", spec := "fnSystem", unfollowed := true, recurses := true, apart := false, narrowed := true }
def FnSystemUptoSaid : Prop := fnSystemUptoRow.holds Try.pinned (OpenSpec.upto fnSystemSpec)

/-- 'laws.FnBrackets', WHERE WHAT IT READS IS OF BULK AT MOST 1048576: true; the input reads as it did. -/
def fnBracketsUptoRow : OpenClaim := { program := "yteioeojpomahgaa", sum := "a29543716846da82640955214d8f5183c07a9e3b4ae1c9bd389f29523a632f05", func := "loop.example/nineplanes/laws.FnBrackets", spec := "fnBrackets", unfollowed := true, recurses := true, apart := false, narrowed := true }
def FnBracketsUptoSaid : Prop := fnBracketsUptoRow.holds Try.pinned (OpenSpec.upto fnBracketsSpec)

/-- 'laws.FnSolve', WHERE WHAT IT READS IS OF BULK AT MOST 1048576: true; the input reads as it did. -/
def fnSolveUptoRow : OpenClaim := { program := "yteioeojpomahgaa", sum := "a29543716846da82640955214d8f5183c07a9e3b4ae1c9bd389f29523a632f05", func := "loop.example/nineplanes/laws.FnSolve", spec := "fnSolve", unfollowed := true, recurses := true, apart := false, narrowed := true }
def FnSolveUptoSaid : Prop := fnSolveUptoRow.holds Try.pinned (OpenSpec.upto fnSolveSpec)

/-- 'laws.FnSwaps', WHERE WHAT IT READS IS OF BULK AT MOST 1048576: true; the input reads as it did. -/
def fnSwapsUptoRow : OpenClaim := { program := "yteioeojpomahgaa", sum := "a29543716846da82640955214d8f5183c07a9e3b4ae1c9bd389f29523a632f05", func := "loop.example/nineplanes/laws.FnSwaps", spec := "fnSwaps", unfollowed := true, recurses := true, apart := false, narrowed := true }
def FnSwapsUptoSaid : Prop := fnSwapsUptoRow.holds Try.pinned (OpenSpec.upto fnSwapsSpec)

/-- 'laws.FnCentre', WHERE WHAT IT READS IS OF BULK AT MOST 1048576: true; the input reads as it did. -/
def fnCentreUptoRow : OpenClaim := { program := "yteioeojpomahgaa", sum := "a29543716846da82640955214d8f5183c07a9e3b4ae1c9bd389f29523a632f05", func := "loop.example/nineplanes/laws.FnCentre", spec := "fnCentre", unfollowed := true, recurses := true, apart := false, narrowed := true }
def FnCentreUptoSaid : Prop := fnCentreUptoRow.holds Try.pinned (OpenSpec.upto fnCentreSpec)

/-- 'laws.FnBoth', WHERE WHAT IT READS IS OF BULK AT MOST 1048576: true; the input reads as it did. -/
def fnBothUptoRow : OpenClaim := { program := "yteioeojpomahgaa", sum := "a29543716846da82640955214d8f5183c07a9e3b4ae1c9bd389f29523a632f05", func := "loop.example/nineplanes/laws.FnBoth", spec := "fnBoth", unfollowed := true, recurses := true, apart := false, narrowed := true }
def FnBothUptoSaid : Prop := fnBothUptoRow.holds Try.pinned (OpenSpec.upto fnBothSpec)

/-- 'laws.FnKernel', WHERE WHAT IT READS IS OF BULK AT MOST 1048576: true; the input reads as it did. -/
def fnKernelUptoRow : OpenClaim := { program := "yteioeojpomahgaa", sum := "a29543716846da82640955214d8f5183c07a9e3b4ae1c9bd389f29523a632f05", func := "loop.example/nineplanes/laws.FnKernel", spec := "fnKernel", unfollowed := true, recurses := true, apart := false, narrowed := true }
def FnKernelUptoSaid : Prop := fnKernelUptoRow.holds Try.pinned (OpenSpec.upto fnKernelSpec)

end Rows
end Go.Proofs.Yteioeojpomahgaa
