/-
  No cell of these rows narrows 'for every input' (looked for: loops, veiled, ifaces, maps, wideKeys, modest, calm, conditions, laid).
  DERIVED. THE GIVEN ROWS OF THIS SEAT. 16 by the template 'for every input the law returns true; each argument reads behind the call as it read before'; 0 by the template 'total and deterministic' (their statements: YtpkcbpjhgaeeoaaTotals.lean).
  GIVEN WITH THE SEED: the statements are not yours to turn. If you find one false, say at which input.
  Laid BY PROGRAM, IN A SANDBOX (cutbox-rows.mjs): the forced cells as the released guide's own fill.sh prints them over the translation 07eb170ae2fe5716… (all of the seat's roots in one cut). By AI agents, Wed Nov 11 2026. No macro, syntax, notation, axiom, sorry.
-/
import Derived.Test.YtpkcbpjhgaeeoaaChecked
import GoSem.Claim
import GoSem.ClaimJoined
import GoSem.ClaimMapViews
import Derived.JoinedTies
import Derived.KernelRfl
namespace Go.Proofs.Ytpkcbpjhgaeeoaa
/- THE CELL 'sum', in the pinned program and in every row, IS THE sha256 OF THE DUMP (.gsa) THAT YtpkcbpjhgaeeoaaProg.lean LOADS. Nothing in Lean hashes anything: it is a label: what it is worth is what the hold of that sum in a sandbox is worth. -/
noncomputable def Try.pinned : Pinned := { name := "ytpkcbpjhgaeeoaa", sum := "07eb170ae2fe5716acc234e57c74bc11a34461be4491690f3547ba77b9ac26e5", checked := Try.checked }
namespace Rows
def none {H : Type} : Left H := { results := [], args := [] }

/-- 'laws.FnExactConstants': WHATEVER THE INPUT: true; the input reads as it did. -/
def fnExactConstantsSpec : ChangeSpec := { name := "fnExactConstants", fn := fun _ => fun
  | [] => { results := [.lit (.bool true)], args := [] }
  | _ => none }
def fnExactConstantsRow : OpenClaim := { program := "ytpkcbpjhgaeeoaa", sum := "07eb170ae2fe5716acc234e57c74bc11a34461be4491690f3547ba77b9ac26e5", func := "loop.example/nineplanes/laws.FnExactConstants", spec := "fnExactConstants", apart := false }
def FnExactConstantsSaid : Prop := fnExactConstantsRow.holds Try.pinned (OpenSpec.ofChange fnExactConstantsSpec)

/-- ITS FALSE NEIGHBOUR: 'it returns false'. Refute it at one input. -/
def fnExactConstantsWrong : ChangeSpec := { name := "fnExactConstants", fn := fun _ => fun
  | [] => { results := [.lit (.bool false)], args := [] }
  | _ => none }
def FnExactConstantsWrongFalsely : Prop := fnExactConstantsRow.holds Try.pinned (OpenSpec.ofChange fnExactConstantsWrong)

/-- 'laws.FnExactNineAdd': WHATEVER THE INPUT: true; the input reads as it did. -/
def fnExactNineAddSpec : ChangeSpec := { name := "fnExactNineAdd", fn := fun _ => fun
  | [d1, d2] => { results := [.lit (.bool true)], args := [d1, d2] }
  | _ => none }
def fnExactNineAddRow : OpenClaim := { program := "ytpkcbpjhgaeeoaa", sum := "07eb170ae2fe5716acc234e57c74bc11a34461be4491690f3547ba77b9ac26e5", func := "loop.example/nineplanes/laws.FnExactNineAdd", spec := "fnExactNineAdd", apart := false }
def FnExactNineAddSaid : Prop := fnExactNineAddRow.holds Try.pinned (OpenSpec.ofChange fnExactNineAddSpec)

/-- ITS FALSE NEIGHBOUR: 'it returns false'. Refute it at one input. -/
def fnExactNineAddWrong : ChangeSpec := { name := "fnExactNineAdd", fn := fun _ => fun
  | [d1, d2] => { results := [.lit (.bool false)], args := [d1, d2] }
  | _ => none }
def FnExactNineAddWrongFalsely : Prop := fnExactNineAddRow.holds Try.pinned (OpenSpec.ofChange fnExactNineAddWrong)

/-- 'laws.FnExactNineMinus': WHATEVER THE INPUT: true; the input reads as it did. -/
def fnExactNineMinusSpec : ChangeSpec := { name := "fnExactNineMinus", fn := fun _ => fun
  | [d] => { results := [.lit (.bool true)], args := [d] }
  | _ => none }
def fnExactNineMinusRow : OpenClaim := { program := "ytpkcbpjhgaeeoaa", sum := "07eb170ae2fe5716acc234e57c74bc11a34461be4491690f3547ba77b9ac26e5", func := "loop.example/nineplanes/laws.FnExactNineMinus", spec := "fnExactNineMinus", apart := false }
def FnExactNineMinusSaid : Prop := fnExactNineMinusRow.holds Try.pinned (OpenSpec.ofChange fnExactNineMinusSpec)

/-- ITS FALSE NEIGHBOUR: 'it returns false'. Refute it at one input. -/
def fnExactNineMinusWrong : ChangeSpec := { name := "fnExactNineMinus", fn := fun _ => fun
  | [d] => { results := [.lit (.bool false)], args := [d] }
  | _ => none }
def FnExactNineMinusWrongFalsely : Prop := fnExactNineMinusRow.holds Try.pinned (OpenSpec.ofChange fnExactNineMinusWrong)

/-- 'laws.FnExactNineTimes': WHATEVER THE INPUT: true; the input reads as it did. -/
def fnExactNineTimesSpec : ChangeSpec := { name := "fnExactNineTimes", fn := fun _ => fun
  | [d1, d2] => { results := [.lit (.bool true)], args := [d1, d2] }
  | _ => none }
def fnExactNineTimesRow : OpenClaim := { program := "ytpkcbpjhgaeeoaa", sum := "07eb170ae2fe5716acc234e57c74bc11a34461be4491690f3547ba77b9ac26e5", func := "loop.example/nineplanes/laws.FnExactNineTimes", spec := "fnExactNineTimes", apart := false }
def FnExactNineTimesSaid : Prop := fnExactNineTimesRow.holds Try.pinned (OpenSpec.ofChange fnExactNineTimesSpec)

/-- ITS FALSE NEIGHBOUR: 'it returns false'. Refute it at one input. -/
def fnExactNineTimesWrong : ChangeSpec := { name := "fnExactNineTimes", fn := fun _ => fun
  | [d1, d2] => { results := [.lit (.bool false)], args := [d1, d2] }
  | _ => none }
def FnExactNineTimesWrongFalsely : Prop := fnExactNineTimesRow.holds Try.pinned (OpenSpec.ofChange fnExactNineTimesWrong)

/-- 'laws.FnExactNineCube': WHATEVER THE INPUT: true; the input reads as it did. -/
def fnExactNineCubeSpec : ChangeSpec := { name := "fnExactNineCube", fn := fun _ => fun
  | [d] => { results := [.lit (.bool true)], args := [d] }
  | _ => none }
def fnExactNineCubeRow : OpenClaim := { program := "ytpkcbpjhgaeeoaa", sum := "07eb170ae2fe5716acc234e57c74bc11a34461be4491690f3547ba77b9ac26e5", func := "loop.example/nineplanes/laws.FnExactNineCube", spec := "fnExactNineCube", apart := false }
def FnExactNineCubeSaid : Prop := fnExactNineCubeRow.holds Try.pinned (OpenSpec.ofChange fnExactNineCubeSpec)

/-- ITS FALSE NEIGHBOUR: 'it returns false'. Refute it at one input. -/
def fnExactNineCubeWrong : ChangeSpec := { name := "fnExactNineCube", fn := fun _ => fun
  | [d] => { results := [.lit (.bool false)], args := [d] }
  | _ => none }
def FnExactNineCubeWrongFalsely : Prop := fnExactNineCubeRow.holds Try.pinned (OpenSpec.ofChange fnExactNineCubeWrong)

/-- 'laws.FnExactNineTurned': WHATEVER THE INPUT: true; the input reads as it did. -/
def fnExactNineTurnedSpec : ChangeSpec := { name := "fnExactNineTurned", fn := fun _ => fun
  | [d] => { results := [.lit (.bool true)], args := [d] }
  | _ => none }
def fnExactNineTurnedRow : OpenClaim := { program := "ytpkcbpjhgaeeoaa", sum := "07eb170ae2fe5716acc234e57c74bc11a34461be4491690f3547ba77b9ac26e5", func := "loop.example/nineplanes/laws.FnExactNineTurned", spec := "fnExactNineTurned", apart := false }
def FnExactNineTurnedSaid : Prop := fnExactNineTurnedRow.holds Try.pinned (OpenSpec.ofChange fnExactNineTurnedSpec)

/-- ITS FALSE NEIGHBOUR: 'it returns false'. Refute it at one input. -/
def fnExactNineTurnedWrong : ChangeSpec := { name := "fnExactNineTurned", fn := fun _ => fun
  | [d] => { results := [.lit (.bool false)], args := [d] }
  | _ => none }
def FnExactNineTurnedWrongFalsely : Prop := fnExactNineTurnedRow.holds Try.pinned (OpenSpec.ofChange fnExactNineTurnedWrong)

/-- 'laws.FnExactNineOrder': WHATEVER THE INPUT: true; the input reads as it did. -/
def fnExactNineOrderSpec : ChangeSpec := { name := "fnExactNineOrder", fn := fun _ => fun
  | [d] => { results := [.lit (.bool true)], args := [d] }
  | _ => none }
def fnExactNineOrderRow : OpenClaim := { program := "ytpkcbpjhgaeeoaa", sum := "07eb170ae2fe5716acc234e57c74bc11a34461be4491690f3547ba77b9ac26e5", func := "loop.example/nineplanes/laws.FnExactNineOrder", spec := "fnExactNineOrder", apart := false }
def FnExactNineOrderSaid : Prop := fnExactNineOrderRow.holds Try.pinned (OpenSpec.ofChange fnExactNineOrderSpec)

/-- ITS FALSE NEIGHBOUR: 'it returns false'. Refute it at one input. -/
def fnExactNineOrderWrong : ChangeSpec := { name := "fnExactNineOrder", fn := fun _ => fun
  | [d] => { results := [.lit (.bool false)], args := [d] }
  | _ => none }
def FnExactNineOrderWrongFalsely : Prop := fnExactNineOrderRow.holds Try.pinned (OpenSpec.ofChange fnExactNineOrderWrong)

/-- 'laws.FnExactNineSquare': WHATEVER THE INPUT: true; the input reads as it did. -/
def fnExactNineSquareSpec : ChangeSpec := { name := "fnExactNineSquare", fn := fun _ => fun
  | [d] => { results := [.lit (.bool true)], args := [d] }
  | _ => none }
def fnExactNineSquareRow : OpenClaim := { program := "ytpkcbpjhgaeeoaa", sum := "07eb170ae2fe5716acc234e57c74bc11a34461be4491690f3547ba77b9ac26e5", func := "loop.example/nineplanes/laws.FnExactNineSquare", spec := "fnExactNineSquare", apart := false }
def FnExactNineSquareSaid : Prop := fnExactNineSquareRow.holds Try.pinned (OpenSpec.ofChange fnExactNineSquareSpec)

/-- ITS FALSE NEIGHBOUR: 'it returns false'. Refute it at one input. -/
def fnExactNineSquareWrong : ChangeSpec := { name := "fnExactNineSquare", fn := fun _ => fun
  | [d] => { results := [.lit (.bool false)], args := [d] }
  | _ => none }
def FnExactNineSquareWrongFalsely : Prop := fnExactNineSquareRow.holds Try.pinned (OpenSpec.ofChange fnExactNineSquareWrong)

/-- 'laws.FnMinus': WHATEVER THE INPUT: true; the input reads as it did. -/
def fnMinusSpec : ChangeSpec := { name := "fnMinus", fn := fun _ => fun
  | [d] => { results := [.lit (.bool true)], args := [d] }
  | _ => none }
def fnMinusRow : OpenClaim := { program := "ytpkcbpjhgaeeoaa", sum := "07eb170ae2fe5716acc234e57c74bc11a34461be4491690f3547ba77b9ac26e5", func := "loop.example/nineplanes/laws.FnMinus", spec := "fnMinus", apart := false }
def FnMinusSaid : Prop := fnMinusRow.holds Try.pinned (OpenSpec.ofChange fnMinusSpec)

/-- ITS FALSE NEIGHBOUR: 'it returns false'. Refute it at one input. -/
def fnMinusWrong : ChangeSpec := { name := "fnMinus", fn := fun _ => fun
  | [d] => { results := [.lit (.bool false)], args := [d] }
  | _ => none }
def FnMinusWrongFalsely : Prop := fnMinusRow.holds Try.pinned (OpenSpec.ofChange fnMinusWrong)

/-- 'laws.FnAdd': WHATEVER THE INPUT: true; the input reads as it did. -/
def fnAddSpec : ChangeSpec := { name := "fnAdd", fn := fun _ => fun
  | [d] => { results := [.lit (.bool true)], args := [d] }
  | _ => none }
def fnAddRow : OpenClaim := { program := "ytpkcbpjhgaeeoaa", sum := "07eb170ae2fe5716acc234e57c74bc11a34461be4491690f3547ba77b9ac26e5", func := "loop.example/nineplanes/laws.FnAdd", spec := "fnAdd", apart := false }
def FnAddSaid : Prop := fnAddRow.holds Try.pinned (OpenSpec.ofChange fnAddSpec)

/-- ITS FALSE NEIGHBOUR: 'it returns false'. Refute it at one input. -/
def fnAddWrong : ChangeSpec := { name := "fnAdd", fn := fun _ => fun
  | [d] => { results := [.lit (.bool false)], args := [d] }
  | _ => none }
def FnAddWrongFalsely : Prop := fnAddRow.holds Try.pinned (OpenSpec.ofChange fnAddWrong)

/-- 'laws.FnCube': WHATEVER THE INPUT: true; the input reads as it did. -/
def fnCubeSpec : ChangeSpec := { name := "fnCube", fn := fun _ => fun
  | [d] => { results := [.lit (.bool true)], args := [d] }
  | _ => none }
def fnCubeRow : OpenClaim := { program := "ytpkcbpjhgaeeoaa", sum := "07eb170ae2fe5716acc234e57c74bc11a34461be4491690f3547ba77b9ac26e5", func := "loop.example/nineplanes/laws.FnCube", spec := "fnCube", apart := false }
def FnCubeSaid : Prop := fnCubeRow.holds Try.pinned (OpenSpec.ofChange fnCubeSpec)

/-- ITS FALSE NEIGHBOUR: 'it returns false'. Refute it at one input. -/
def fnCubeWrong : ChangeSpec := { name := "fnCube", fn := fun _ => fun
  | [d] => { results := [.lit (.bool false)], args := [d] }
  | _ => none }
def FnCubeWrongFalsely : Prop := fnCubeRow.holds Try.pinned (OpenSpec.ofChange fnCubeWrong)

/-- 'laws.FnTimes': WHATEVER THE INPUT: true; the input reads as it did. -/
def fnTimesSpec : ChangeSpec := { name := "fnTimes", fn := fun _ => fun
  | [d] => { results := [.lit (.bool true)], args := [d] }
  | _ => none }
def fnTimesRow : OpenClaim := { program := "ytpkcbpjhgaeeoaa", sum := "07eb170ae2fe5716acc234e57c74bc11a34461be4491690f3547ba77b9ac26e5", func := "loop.example/nineplanes/laws.FnTimes", spec := "fnTimes", apart := false }
def FnTimesSaid : Prop := fnTimesRow.holds Try.pinned (OpenSpec.ofChange fnTimesSpec)

/-- ITS FALSE NEIGHBOUR: 'it returns false'. Refute it at one input. -/
def fnTimesWrong : ChangeSpec := { name := "fnTimes", fn := fun _ => fun
  | [d] => { results := [.lit (.bool false)], args := [d] }
  | _ => none }
def FnTimesWrongFalsely : Prop := fnTimesRow.holds Try.pinned (OpenSpec.ofChange fnTimesWrong)

/-- 'laws.FnTurned': WHATEVER THE INPUT: true; the input reads as it did. -/
def fnTurnedSpec : ChangeSpec := { name := "fnTurned", fn := fun _ => fun
  | [d] => { results := [.lit (.bool true)], args := [d] }
  | _ => none }
def fnTurnedRow : OpenClaim := { program := "ytpkcbpjhgaeeoaa", sum := "07eb170ae2fe5716acc234e57c74bc11a34461be4491690f3547ba77b9ac26e5", func := "loop.example/nineplanes/laws.FnTurned", spec := "fnTurned", apart := false }
def FnTurnedSaid : Prop := fnTurnedRow.holds Try.pinned (OpenSpec.ofChange fnTurnedSpec)

/-- ITS FALSE NEIGHBOUR: 'it returns false'. Refute it at one input. -/
def fnTurnedWrong : ChangeSpec := { name := "fnTurned", fn := fun _ => fun
  | [d] => { results := [.lit (.bool false)], args := [d] }
  | _ => none }
def FnTurnedWrongFalsely : Prop := fnTurnedRow.holds Try.pinned (OpenSpec.ofChange fnTurnedWrong)

/-- 'laws.FnOrder': WHATEVER THE INPUT: true; the input reads as it did. -/
def fnOrderSpec : ChangeSpec := { name := "fnOrder", fn := fun _ => fun
  | [d] => { results := [.lit (.bool true)], args := [d] }
  | _ => none }
def fnOrderRow : OpenClaim := { program := "ytpkcbpjhgaeeoaa", sum := "07eb170ae2fe5716acc234e57c74bc11a34461be4491690f3547ba77b9ac26e5", func := "loop.example/nineplanes/laws.FnOrder", spec := "fnOrder", apart := false }
def FnOrderSaid : Prop := fnOrderRow.holds Try.pinned (OpenSpec.ofChange fnOrderSpec)

/-- ITS FALSE NEIGHBOUR: 'it returns false'. Refute it at one input. -/
def fnOrderWrong : ChangeSpec := { name := "fnOrder", fn := fun _ => fun
  | [d] => { results := [.lit (.bool false)], args := [d] }
  | _ => none }
def FnOrderWrongFalsely : Prop := fnOrderRow.holds Try.pinned (OpenSpec.ofChange fnOrderWrong)

/-- 'laws.FnSquare': WHATEVER THE INPUT: true; the input reads as it did. -/
def fnSquareSpec : ChangeSpec := { name := "fnSquare", fn := fun _ => fun
  | [d] => { results := [.lit (.bool true)], args := [d] }
  | _ => none }
def fnSquareRow : OpenClaim := { program := "ytpkcbpjhgaeeoaa", sum := "07eb170ae2fe5716acc234e57c74bc11a34461be4491690f3547ba77b9ac26e5", func := "loop.example/nineplanes/laws.FnSquare", spec := "fnSquare", apart := false }
def FnSquareSaid : Prop := fnSquareRow.holds Try.pinned (OpenSpec.ofChange fnSquareSpec)

/-- ITS FALSE NEIGHBOUR: 'it returns false'. Refute it at one input. -/
def fnSquareWrong : ChangeSpec := { name := "fnSquare", fn := fun _ => fun
  | [d] => { results := [.lit (.bool false)], args := [d] }
  | _ => none }
def FnSquareWrongFalsely : Prop := fnSquareRow.holds Try.pinned (OpenSpec.ofChange fnSquareWrong)

/-- 'laws.FnExactSystemOf': WHATEVER THE INPUT: true; the input reads as it did. -/
def fnExactSystemOfSpec : ChangeSpec := { name := "fnExactSystemOf", fn := fun _ => fun
  | [d] => { results := [.lit (.bool true)], args := [d] }
  | _ => none }
def fnExactSystemOfRow : OpenClaim := { program := "ytpkcbpjhgaeeoaa", sum := "07eb170ae2fe5716acc234e57c74bc11a34461be4491690f3547ba77b9ac26e5", func := "loop.example/nineplanes/laws.FnExactSystemOf", spec := "fnExactSystemOf", apart := false }
def FnExactSystemOfSaid : Prop := fnExactSystemOfRow.holds Try.pinned (OpenSpec.ofChange fnExactSystemOfSpec)

/-- ITS FALSE NEIGHBOUR: 'it returns false'. Refute it at one input. -/
def fnExactSystemOfWrong : ChangeSpec := { name := "fnExactSystemOf", fn := fun _ => fun
  | [d] => { results := [.lit (.bool false)], args := [d] }
  | _ => none }
def FnExactSystemOfWrongFalsely : Prop := fnExactSystemOfRow.holds Try.pinned (OpenSpec.ofChange fnExactSystemOfWrong)

/- THE SECOND FORM. 'bulk': how many values and letters a reading holds, each counted each time it is reached (what is shared counts as often as it is met; a slice's spare places count too). A statement '..UptoSaid' is the law's where the arguments, and the package variables that the reading takes, are together of bulk at most 1048576: NARROWER than '..Said'. Prove '..Said' where nothing that the law and all that it calls make is longer than what came in: it says more and counts as full. Else prove '..UptoSaid'. A law counts once. -/
mutual
def uptoBulk {H : Type} : DataW H → Nat
  | .lit (.string bytes) => bytes.length + 1
  | .lit _ => 1
  | .nil => 1
  | .ptr d => uptoBulk d + 1
  | .slice elems spare => uptoBulkAll elems + uptoBulkAll spare + 1
  | .agg parts => uptoBulkAll parts + 1
  | .iface _ d => uptoBulk d + 1
  | .map entries => uptoBulkEntries entries + 1
  | .held _ => 1
def uptoBulkAll {H : Type} : List (DataW H) → Nat
  | [] => 0
  | d :: r => uptoBulk d + uptoBulkAll r
def uptoBulkEntries {H : Type} : List (Lit × DataW H) → Nat
  | [] => 0
  | x :: r => uptoBulkEntry x + uptoBulkEntries r
def uptoBulkEntry {H : Type} : Lit × DataW H → Nat
  | (.string bytes, d) => bytes.length + uptoBulk d + 1
  | (_, d) => uptoBulk d + 1
 end
def uptoSmall : (H : Type) → List (DataW H) → Bool := fun _ ds => decide (uptoBulkAll ds ≤ 1048576)
def OpenSpec.upto (s : _root_.Go.ChangeSpec) : _root_.Go.OpenSpec := { _root_.Go.OpenSpec.ofChange s with cond := some uptoSmall }

/-- 'laws.FnExactConstants', WHERE WHAT IT READS IS OF BULK AT MOST 1048576: true; the input reads as it did. -/
def fnExactConstantsUptoRow : OpenClaim := { program := "ytpkcbpjhgaeeoaa", sum := "07eb170ae2fe5716acc234e57c74bc11a34461be4491690f3547ba77b9ac26e5", func := "loop.example/nineplanes/laws.FnExactConstants", spec := "fnExactConstants", apart := false, narrowed := true }
def FnExactConstantsUptoSaid : Prop := fnExactConstantsUptoRow.holds Try.pinned (OpenSpec.upto fnExactConstantsSpec)

/-- 'laws.FnExactNineAdd', WHERE WHAT IT READS IS OF BULK AT MOST 1048576: true; the input reads as it did. -/
def fnExactNineAddUptoRow : OpenClaim := { program := "ytpkcbpjhgaeeoaa", sum := "07eb170ae2fe5716acc234e57c74bc11a34461be4491690f3547ba77b9ac26e5", func := "loop.example/nineplanes/laws.FnExactNineAdd", spec := "fnExactNineAdd", apart := false, narrowed := true }
def FnExactNineAddUptoSaid : Prop := fnExactNineAddUptoRow.holds Try.pinned (OpenSpec.upto fnExactNineAddSpec)

/-- 'laws.FnExactNineMinus', WHERE WHAT IT READS IS OF BULK AT MOST 1048576: true; the input reads as it did. -/
def fnExactNineMinusUptoRow : OpenClaim := { program := "ytpkcbpjhgaeeoaa", sum := "07eb170ae2fe5716acc234e57c74bc11a34461be4491690f3547ba77b9ac26e5", func := "loop.example/nineplanes/laws.FnExactNineMinus", spec := "fnExactNineMinus", apart := false, narrowed := true }
def FnExactNineMinusUptoSaid : Prop := fnExactNineMinusUptoRow.holds Try.pinned (OpenSpec.upto fnExactNineMinusSpec)

/-- 'laws.FnExactNineTimes', WHERE WHAT IT READS IS OF BULK AT MOST 1048576: true; the input reads as it did. -/
def fnExactNineTimesUptoRow : OpenClaim := { program := "ytpkcbpjhgaeeoaa", sum := "07eb170ae2fe5716acc234e57c74bc11a34461be4491690f3547ba77b9ac26e5", func := "loop.example/nineplanes/laws.FnExactNineTimes", spec := "fnExactNineTimes", apart := false, narrowed := true }
def FnExactNineTimesUptoSaid : Prop := fnExactNineTimesUptoRow.holds Try.pinned (OpenSpec.upto fnExactNineTimesSpec)

/-- 'laws.FnExactNineCube', WHERE WHAT IT READS IS OF BULK AT MOST 1048576: true; the input reads as it did. -/
def fnExactNineCubeUptoRow : OpenClaim := { program := "ytpkcbpjhgaeeoaa", sum := "07eb170ae2fe5716acc234e57c74bc11a34461be4491690f3547ba77b9ac26e5", func := "loop.example/nineplanes/laws.FnExactNineCube", spec := "fnExactNineCube", apart := false, narrowed := true }
def FnExactNineCubeUptoSaid : Prop := fnExactNineCubeUptoRow.holds Try.pinned (OpenSpec.upto fnExactNineCubeSpec)

/-- 'laws.FnExactNineTurned', WHERE WHAT IT READS IS OF BULK AT MOST 1048576: true; the input reads as it did. -/
def fnExactNineTurnedUptoRow : OpenClaim := { program := "ytpkcbpjhgaeeoaa", sum := "07eb170ae2fe5716acc234e57c74bc11a34461be4491690f3547ba77b9ac26e5", func := "loop.example/nineplanes/laws.FnExactNineTurned", spec := "fnExactNineTurned", apart := false, narrowed := true }
def FnExactNineTurnedUptoSaid : Prop := fnExactNineTurnedUptoRow.holds Try.pinned (OpenSpec.upto fnExactNineTurnedSpec)

/-- 'laws.FnExactNineOrder', WHERE WHAT IT READS IS OF BULK AT MOST 1048576: true; the input reads as it did. -/
def fnExactNineOrderUptoRow : OpenClaim := { program := "ytpkcbpjhgaeeoaa", sum := "07eb170ae2fe5716acc234e57c74bc11a34461be4491690f3547ba77b9ac26e5", func := "loop.example/nineplanes/laws.FnExactNineOrder", spec := "fnExactNineOrder", apart := false, narrowed := true }
def FnExactNineOrderUptoSaid : Prop := fnExactNineOrderUptoRow.holds Try.pinned (OpenSpec.upto fnExactNineOrderSpec)

/-- 'laws.FnExactNineSquare', WHERE WHAT IT READS IS OF BULK AT MOST 1048576: true; the input reads as it did. -/
def fnExactNineSquareUptoRow : OpenClaim := { program := "ytpkcbpjhgaeeoaa", sum := "07eb170ae2fe5716acc234e57c74bc11a34461be4491690f3547ba77b9ac26e5", func := "loop.example/nineplanes/laws.FnExactNineSquare", spec := "fnExactNineSquare", apart := false, narrowed := true }
def FnExactNineSquareUptoSaid : Prop := fnExactNineSquareUptoRow.holds Try.pinned (OpenSpec.upto fnExactNineSquareSpec)

/-- 'laws.FnMinus', WHERE WHAT IT READS IS OF BULK AT MOST 1048576: true; the input reads as it did. -/
def fnMinusUptoRow : OpenClaim := { program := "ytpkcbpjhgaeeoaa", sum := "07eb170ae2fe5716acc234e57c74bc11a34461be4491690f3547ba77b9ac26e5", func := "loop.example/nineplanes/laws.FnMinus", spec := "fnMinus", apart := false, narrowed := true }
def FnMinusUptoSaid : Prop := fnMinusUptoRow.holds Try.pinned (OpenSpec.upto fnMinusSpec)

/-- 'laws.FnAdd', WHERE WHAT IT READS IS OF BULK AT MOST 1048576: true; the input reads as it did. -/
def fnAddUptoRow : OpenClaim := { program := "ytpkcbpjhgaeeoaa", sum := "07eb170ae2fe5716acc234e57c74bc11a34461be4491690f3547ba77b9ac26e5", func := "loop.example/nineplanes/laws.FnAdd", spec := "fnAdd", apart := false, narrowed := true }
def FnAddUptoSaid : Prop := fnAddUptoRow.holds Try.pinned (OpenSpec.upto fnAddSpec)

/-- 'laws.FnCube', WHERE WHAT IT READS IS OF BULK AT MOST 1048576: true; the input reads as it did. -/
def fnCubeUptoRow : OpenClaim := { program := "ytpkcbpjhgaeeoaa", sum := "07eb170ae2fe5716acc234e57c74bc11a34461be4491690f3547ba77b9ac26e5", func := "loop.example/nineplanes/laws.FnCube", spec := "fnCube", apart := false, narrowed := true }
def FnCubeUptoSaid : Prop := fnCubeUptoRow.holds Try.pinned (OpenSpec.upto fnCubeSpec)

/-- 'laws.FnTimes', WHERE WHAT IT READS IS OF BULK AT MOST 1048576: true; the input reads as it did. -/
def fnTimesUptoRow : OpenClaim := { program := "ytpkcbpjhgaeeoaa", sum := "07eb170ae2fe5716acc234e57c74bc11a34461be4491690f3547ba77b9ac26e5", func := "loop.example/nineplanes/laws.FnTimes", spec := "fnTimes", apart := false, narrowed := true }
def FnTimesUptoSaid : Prop := fnTimesUptoRow.holds Try.pinned (OpenSpec.upto fnTimesSpec)

/-- 'laws.FnTurned', WHERE WHAT IT READS IS OF BULK AT MOST 1048576: true; the input reads as it did. -/
def fnTurnedUptoRow : OpenClaim := { program := "ytpkcbpjhgaeeoaa", sum := "07eb170ae2fe5716acc234e57c74bc11a34461be4491690f3547ba77b9ac26e5", func := "loop.example/nineplanes/laws.FnTurned", spec := "fnTurned", apart := false, narrowed := true }
def FnTurnedUptoSaid : Prop := fnTurnedUptoRow.holds Try.pinned (OpenSpec.upto fnTurnedSpec)

/-- 'laws.FnOrder', WHERE WHAT IT READS IS OF BULK AT MOST 1048576: true; the input reads as it did. -/
def fnOrderUptoRow : OpenClaim := { program := "ytpkcbpjhgaeeoaa", sum := "07eb170ae2fe5716acc234e57c74bc11a34461be4491690f3547ba77b9ac26e5", func := "loop.example/nineplanes/laws.FnOrder", spec := "fnOrder", apart := false, narrowed := true }
def FnOrderUptoSaid : Prop := fnOrderUptoRow.holds Try.pinned (OpenSpec.upto fnOrderSpec)

/-- 'laws.FnSquare', WHERE WHAT IT READS IS OF BULK AT MOST 1048576: true; the input reads as it did. -/
def fnSquareUptoRow : OpenClaim := { program := "ytpkcbpjhgaeeoaa", sum := "07eb170ae2fe5716acc234e57c74bc11a34461be4491690f3547ba77b9ac26e5", func := "loop.example/nineplanes/laws.FnSquare", spec := "fnSquare", apart := false, narrowed := true }
def FnSquareUptoSaid : Prop := fnSquareUptoRow.holds Try.pinned (OpenSpec.upto fnSquareSpec)

/-- 'laws.FnExactSystemOf', WHERE WHAT IT READS IS OF BULK AT MOST 1048576: true; the input reads as it did. -/
def fnExactSystemOfUptoRow : OpenClaim := { program := "ytpkcbpjhgaeeoaa", sum := "07eb170ae2fe5716acc234e57c74bc11a34461be4491690f3547ba77b9ac26e5", func := "loop.example/nineplanes/laws.FnExactSystemOf", spec := "fnExactSystemOf", apart := false, narrowed := true }
def FnExactSystemOfUptoSaid : Prop := fnExactSystemOfUptoRow.holds Try.pinned (OpenSpec.upto fnExactSystemOfSpec)

end Rows
end Go.Proofs.Ytpkcbpjhgaeeoaa
