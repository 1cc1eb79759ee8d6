/-
  No cell of these rows narrows 'for every input' (looked for: loops, veiled, ifaces, maps, wideKeys, modest, calm, conditions, laid).
  DERIVED. THE GIVEN ROWS OF THIS SEAT. 11 by the template 'for every input the law returns true; each argument reads behind the call as it read before'; 0 by the template 'total and deterministic' (their statements: YtiobhhcbdcbajaaTotals.lean).
  GIVEN WITH THE SEED: the statements are not yours to turn. If you find one false, say at which input.
  Laid BY PROGRAM, IN A SANDBOX (cutbox-rows.mjs): the forced cells as the released guide's own fill.sh prints them over the translation 11a303b313502a95… (all of the seat's roots in one cut). By AI agents, Wed Nov 11 2026. No macro, syntax, notation, axiom, sorry.
-/
import Derived.Test.YtiobhhcbdcbajaaChecked
import GoSem.Claim
import GoSem.ClaimJoined
import GoSem.ClaimMapViews
import Derived.JoinedTies
import Derived.KernelRfl
namespace Go.Proofs.Ytiobhhcbdcbajaa
/- THE CELL 'sum', in the pinned program and in every row, IS THE sha256 OF THE DUMP (.gsa) THAT YtiobhhcbdcbajaaProg.lean LOADS. Nothing in Lean hashes anything: it is a label: what it is worth is what the hold of that sum in a sandbox is worth. -/
noncomputable def Try.pinned : Pinned := { name := "ytiobhhcbdcbajaa", sum := "11a303b313502a951b8b0e577809fa4866f2fec968d912ba7897def89ffecf5f", checked := Try.checked }
namespace Rows
def none {H : Type} : Left H := { results := [], args := [] }

/-- 'laws.FnHex': WHATEVER THE INPUT: true; the input reads as it did. -/
def fnHexSpec : ChangeSpec := { name := "fnHex", fn := fun _ => fun
  | [d] => { results := [.lit (.bool true)], args := [d] }
  | _ => none }
def fnHexRow : OpenClaim := { program := "ytiobhhcbdcbajaa", sum := "11a303b313502a951b8b0e577809fa4866f2fec968d912ba7897def89ffecf5f", func := "loop.example/nineplanes/laws.FnHex", spec := "fnHex", unfollowed := true, recurses := true, apart := false }
def FnHexSaid : Prop := fnHexRow.holds Try.pinned (OpenSpec.ofChange fnHexSpec)

/-- ITS FALSE NEIGHBOUR: 'it returns false'. Refute it at one input. -/
def fnHexWrong : ChangeSpec := { name := "fnHex", fn := fun _ => fun
  | [d] => { results := [.lit (.bool false)], args := [d] }
  | _ => none }
def FnHexWrongFalsely : Prop := fnHexRow.holds Try.pinned (OpenSpec.ofChange fnHexWrong)

/-- 'laws.FnQuadLine': WHATEVER THE INPUT: true; the input reads as it did. -/
def fnQuadLineSpec : ChangeSpec := { name := "fnQuadLine", fn := fun _ => fun
  | [d] => { results := [.lit (.bool true)], args := [d] }
  | _ => none }
def fnQuadLineRow : OpenClaim := { program := "ytiobhhcbdcbajaa", sum := "11a303b313502a951b8b0e577809fa4866f2fec968d912ba7897def89ffecf5f", func := "loop.example/nineplanes/laws.FnQuadLine", spec := "fnQuadLine", unfollowed := true, recurses := true, apart := false }
def FnQuadLineSaid : Prop := fnQuadLineRow.holds Try.pinned (OpenSpec.ofChange fnQuadLineSpec)

/-- ITS FALSE NEIGHBOUR: 'it returns false'. Refute it at one input. -/
def fnQuadLineWrong : ChangeSpec := { name := "fnQuadLine", fn := fun _ => fun
  | [d] => { results := [.lit (.bool false)], args := [d] }
  | _ => none }
def FnQuadLineWrongFalsely : Prop := fnQuadLineRow.holds Try.pinned (OpenSpec.ofChange fnQuadLineWrong)

/-- 'laws.FnHexCloses': WHATEVER THE INPUT: true; the input reads as it did. -/
def fnHexClosesSpec : ChangeSpec := { name := "fnHexCloses", fn := fun _ => fun
  | [d] => { results := [.lit (.bool true)], args := [d] }
  | _ => none }
def fnHexClosesRow : OpenClaim := { program := "ytiobhhcbdcbajaa", sum := "11a303b313502a951b8b0e577809fa4866f2fec968d912ba7897def89ffecf5f", func := "loop.example/nineplanes/laws.FnHexCloses", spec := "fnHexCloses", unfollowed := true, recurses := true, apart := false }
def FnHexClosesSaid : Prop := fnHexClosesRow.holds Try.pinned (OpenSpec.ofChange fnHexClosesSpec)

/-- ITS FALSE NEIGHBOUR: 'it returns false'. Refute it at one input. -/
def fnHexClosesWrong : ChangeSpec := { name := "fnHexCloses", fn := fun _ => fun
  | [d] => { results := [.lit (.bool false)], args := [d] }
  | _ => none }
def FnHexClosesWrongFalsely : Prop := fnHexClosesRow.holds Try.pinned (OpenSpec.ofChange fnHexClosesWrong)

/-- 'laws.FnExactTwinIn': WHATEVER THE INPUT: true; the input reads as it did. -/
def fnExactTwinInSpec : ChangeSpec := { name := "fnExactTwinIn", fn := fun _ => fun
  | [d1, d2] => { results := [.lit (.bool true)], args := [d1, d2] }
  | _ => none }
def fnExactTwinInRow : OpenClaim := { program := "ytiobhhcbdcbajaa", sum := "11a303b313502a951b8b0e577809fa4866f2fec968d912ba7897def89ffecf5f", func := "loop.example/nineplanes/laws.FnExactTwinIn", spec := "fnExactTwinIn", unfollowed := true, recurses := true, apart := false }
def FnExactTwinInSaid : Prop := fnExactTwinInRow.holds Try.pinned (OpenSpec.ofChange fnExactTwinInSpec)

/-- ITS FALSE NEIGHBOUR: 'it returns false'. Refute it at one input. -/
def fnExactTwinInWrong : ChangeSpec := { name := "fnExactTwinIn", fn := fun _ => fun
  | [d1, d2] => { results := [.lit (.bool false)], args := [d1, d2] }
  | _ => none }
def FnExactTwinInWrongFalsely : Prop := fnExactTwinInRow.holds Try.pinned (OpenSpec.ofChange fnExactTwinInWrong)

/-- 'laws.FnExactHexIn': WHATEVER THE INPUT: true; the input reads as it did. -/
def fnExactHexInSpec : ChangeSpec := { name := "fnExactHexIn", fn := fun _ => fun
  | [d1, d2] => { results := [.lit (.bool true)], args := [d1, d2] }
  | _ => none }
def fnExactHexInRow : OpenClaim := { program := "ytiobhhcbdcbajaa", sum := "11a303b313502a951b8b0e577809fa4866f2fec968d912ba7897def89ffecf5f", func := "loop.example/nineplanes/laws.FnExactHexIn", spec := "fnExactHexIn", unfollowed := true, recurses := true, apart := false }
def FnExactHexInSaid : Prop := fnExactHexInRow.holds Try.pinned (OpenSpec.ofChange fnExactHexInSpec)

/-- ITS FALSE NEIGHBOUR: 'it returns false'. Refute it at one input. -/
def fnExactHexInWrong : ChangeSpec := { name := "fnExactHexIn", fn := fun _ => fun
  | [d1, d2] => { results := [.lit (.bool false)], args := [d1, d2] }
  | _ => none }
def FnExactHexInWrongFalsely : Prop := fnExactHexInRow.holds Try.pinned (OpenSpec.ofChange fnExactHexInWrong)

/-- 'laws.FnExactQuadLine': WHATEVER THE INPUT: true; the input reads as it did. -/
def fnExactQuadLineSpec : ChangeSpec := { name := "fnExactQuadLine", fn := fun _ => fun
  | [d1, d2] => { results := [.lit (.bool true)], args := [d1, d2] }
  | _ => none }
def fnExactQuadLineRow : OpenClaim := { program := "ytiobhhcbdcbajaa", sum := "11a303b313502a951b8b0e577809fa4866f2fec968d912ba7897def89ffecf5f", func := "loop.example/nineplanes/laws.FnExactQuadLine", spec := "fnExactQuadLine", unfollowed := true, recurses := true, apart := false }
def FnExactQuadLineSaid : Prop := fnExactQuadLineRow.holds Try.pinned (OpenSpec.ofChange fnExactQuadLineSpec)

/-- ITS FALSE NEIGHBOUR: 'it returns false'. Refute it at one input. -/
def fnExactQuadLineWrong : ChangeSpec := { name := "fnExactQuadLine", fn := fun _ => fun
  | [d1, d2] => { results := [.lit (.bool false)], args := [d1, d2] }
  | _ => none }
def FnExactQuadLineWrongFalsely : Prop := fnExactQuadLineRow.holds Try.pinned (OpenSpec.ofChange fnExactQuadLineWrong)

/-- 'laws.FnExactHexCloses': WHATEVER THE INPUT: true; the input reads as it did. -/
def fnExactHexClosesSpec : ChangeSpec := { name := "fnExactHexCloses", fn := fun _ => fun
  | [d1, d2] => { results := [.lit (.bool true)], args := [d1, d2] }
  | _ => none }
def fnExactHexClosesRow : OpenClaim := { program := "ytiobhhcbdcbajaa", sum := "11a303b313502a951b8b0e577809fa4866f2fec968d912ba7897def89ffecf5f", func := "loop.example/nineplanes/laws.FnExactHexCloses", spec := "fnExactHexCloses", unfollowed := true, recurses := true, apart := false }
def FnExactHexClosesSaid : Prop := fnExactHexClosesRow.holds Try.pinned (OpenSpec.ofChange fnExactHexClosesSpec)

/-- ITS FALSE NEIGHBOUR: 'it returns false'. Refute it at one input. -/
def fnExactHexClosesWrong : ChangeSpec := { name := "fnExactHexCloses", fn := fun _ => fun
  | [d1, d2] => { results := [.lit (.bool false)], args := [d1, d2] }
  | _ => none }
def FnExactHexClosesWrongFalsely : Prop := fnExactHexClosesRow.holds Try.pinned (OpenSpec.ofChange fnExactHexClosesWrong)

/-- 'laws.FnExactQuadPoints': WHATEVER THE INPUT: true; the input reads as it did. -/
def fnExactQuadPointsSpec : ChangeSpec := { name := "fnExactQuadPoints", fn := fun _ => fun
  | [d1, d2] => { results := [.lit (.bool true)], args := [d1, d2] }
  | _ => none }
def fnExactQuadPointsRow : OpenClaim := { program := "ytiobhhcbdcbajaa", sum := "11a303b313502a951b8b0e577809fa4866f2fec968d912ba7897def89ffecf5f", func := "loop.example/nineplanes/laws.FnExactQuadPoints", spec := "fnExactQuadPoints", unfollowed := true, recurses := true, apart := false }
def FnExactQuadPointsSaid : Prop := fnExactQuadPointsRow.holds Try.pinned (OpenSpec.ofChange fnExactQuadPointsSpec)

/-- ITS FALSE NEIGHBOUR: 'it returns false'. Refute it at one input. -/
def fnExactQuadPointsWrong : ChangeSpec := { name := "fnExactQuadPoints", fn := fun _ => fun
  | [d1, d2] => { results := [.lit (.bool false)], args := [d1, d2] }
  | _ => none }
def FnExactQuadPointsWrongFalsely : Prop := fnExactQuadPointsRow.holds Try.pinned (OpenSpec.ofChange fnExactQuadPointsWrong)

/-- 'laws.FnExactTwinCloses': WHATEVER THE INPUT: true; the input reads as it did. -/
def fnExactTwinClosesSpec : ChangeSpec := { name := "fnExactTwinCloses", fn := fun _ => fun
  | [d1, d2] => { results := [.lit (.bool true)], args := [d1, d2] }
  | _ => none }
def fnExactTwinClosesRow : OpenClaim := { program := "ytiobhhcbdcbajaa", sum := "11a303b313502a951b8b0e577809fa4866f2fec968d912ba7897def89ffecf5f", func := "loop.example/nineplanes/laws.FnExactTwinCloses", spec := "fnExactTwinCloses", unfollowed := true, recurses := true, apart := false }
def FnExactTwinClosesSaid : Prop := fnExactTwinClosesRow.holds Try.pinned (OpenSpec.ofChange fnExactTwinClosesSpec)

/-- ITS FALSE NEIGHBOUR: 'it returns false'. Refute it at one input. -/
def fnExactTwinClosesWrong : ChangeSpec := { name := "fnExactTwinCloses", fn := fun _ => fun
  | [d1, d2] => { results := [.lit (.bool false)], args := [d1, d2] }
  | _ => none }
def FnExactTwinClosesWrongFalsely : Prop := fnExactTwinClosesRow.holds Try.pinned (OpenSpec.ofChange fnExactTwinClosesWrong)

/-- 'laws.FnExactTwinPoints': WHATEVER THE INPUT: true; the input reads as it did. -/
def fnExactTwinPointsSpec : ChangeSpec := { name := "fnExactTwinPoints", fn := fun _ => fun
  | [d1, d2] => { results := [.lit (.bool true)], args := [d1, d2] }
  | _ => none }
def fnExactTwinPointsRow : OpenClaim := { program := "ytiobhhcbdcbajaa", sum := "11a303b313502a951b8b0e577809fa4866f2fec968d912ba7897def89ffecf5f", func := "loop.example/nineplanes/laws.FnExactTwinPoints", spec := "fnExactTwinPoints", unfollowed := true, recurses := true, apart := false }
def FnExactTwinPointsSaid : Prop := fnExactTwinPointsRow.holds Try.pinned (OpenSpec.ofChange fnExactTwinPointsSpec)

/-- ITS FALSE NEIGHBOUR: 'it returns false'. Refute it at one input. -/
def fnExactTwinPointsWrong : ChangeSpec := { name := "fnExactTwinPoints", fn := fun _ => fun
  | [d1, d2] => { results := [.lit (.bool false)], args := [d1, d2] }
  | _ => none }
def FnExactTwinPointsWrongFalsely : Prop := fnExactTwinPointsRow.holds Try.pinned (OpenSpec.ofChange fnExactTwinPointsWrong)

/-- 'laws.FnQuad': WHATEVER THE INPUT: true; the input reads as it did. -/
def fnQuadSpec : ChangeSpec := { name := "fnQuad", fn := fun _ => fun
  | [d] => { results := [.lit (.bool true)], args := [d] }
  | _ => none }
def fnQuadRow : OpenClaim := { program := "ytiobhhcbdcbajaa", sum := "11a303b313502a951b8b0e577809fa4866f2fec968d912ba7897def89ffecf5f", func := "loop.example/nineplanes/laws.FnQuad", spec := "fnQuad", unfollowed := true, recurses := true, apart := false }
def FnQuadSaid : Prop := fnQuadRow.holds Try.pinned (OpenSpec.ofChange fnQuadSpec)

/-- ITS FALSE NEIGHBOUR: 'it returns false'. Refute it at one input. -/
def fnQuadWrong : ChangeSpec := { name := "fnQuad", fn := fun _ => fun
  | [d] => { results := [.lit (.bool false)], args := [d] }
  | _ => none }
def FnQuadWrongFalsely : Prop := fnQuadRow.holds Try.pinned (OpenSpec.ofChange fnQuadWrong)

/- THE SECOND FORM. 'bulk': how many values and letters a reading holds, each counted each time it is reached (what is shared counts as often as it is met; a slice's spare places count too). A statement '..UptoSaid' is the law's where the arguments, and the package variables that the reading takes, are together of bulk at most 1048576: NARROWER than '..Said'. Prove '..Said' where nothing that the law and all that it calls make is longer than what came in: it says more and counts as full. Else prove '..UptoSaid'. A law counts once. -/
mutual
def uptoBulk {H : Type} : DataW H → Nat
  | .lit (.string bytes) => bytes.length + 1
  | .lit _ => 1
  | .nil => 1
  | .ptr d => uptoBulk d + 1
  | .slice elems spare => uptoBulkAll elems + uptoBulkAll spare + 1
  | .agg parts => uptoBulkAll parts + 1
  | .iface _ d => uptoBulk d + 1
  | .map entries => uptoBulkEntries entries + 1
  | .held _ => 1
def uptoBulkAll {H : Type} : List (DataW H) → Nat
  | [] => 0
  | d :: r => uptoBulk d + uptoBulkAll r
def uptoBulkEntries {H : Type} : List (Lit × DataW H) → Nat
  | [] => 0
  | x :: r => uptoBulkEntry x + uptoBulkEntries r
def uptoBulkEntry {H : Type} : Lit × DataW H → Nat
  | (.string bytes, d) => bytes.length + uptoBulk d + 1
  | (_, d) => uptoBulk d + 1
 end
def uptoSmall : (H : Type) → List (DataW H) → Bool := fun _ ds => decide (uptoBulkAll ds ≤ 1048576)
def OpenSpec.upto (s : _root_.Go.ChangeSpec) : _root_.Go.OpenSpec := { _root_.Go.OpenSpec.ofChange s with cond := some uptoSmall }

/-- 'laws.FnHex', WHERE WHAT IT READS IS OF BULK AT MOST 1048576: true; the input reads as it did. -/
def fnHexUptoRow : OpenClaim := { program := "ytiobhhcbdcbajaa", sum := "11a303b313502a951b8b0e577809fa4866f2fec968d912ba7897def89ffecf5f", func := "loop.example/nineplanes/laws.FnHex", spec := "fnHex", unfollowed := true, recurses := true, apart := false, narrowed := true }
def FnHexUptoSaid : Prop := fnHexUptoRow.holds Try.pinned (OpenSpec.upto fnHexSpec)

/-- 'laws.FnQuadLine', WHERE WHAT IT READS IS OF BULK AT MOST 1048576: true; the input reads as it did. -/
def fnQuadLineUptoRow : OpenClaim := { program := "ytiobhhcbdcbajaa", sum := "11a303b313502a951b8b0e577809fa4866f2fec968d912ba7897def89ffecf5f", func := "loop.example/nineplanes/laws.FnQuadLine", spec := "fnQuadLine", unfollowed := true, recurses := true, apart := false, narrowed := true }
def FnQuadLineUptoSaid : Prop := fnQuadLineUptoRow.holds Try.pinned (OpenSpec.upto fnQuadLineSpec)

/-- 'laws.FnHexCloses', WHERE WHAT IT READS IS OF BULK AT MOST 1048576: true; the input reads as it did. -/
def fnHexClosesUptoRow : OpenClaim := { program := "ytiobhhcbdcbajaa", sum := "11a303b313502a951b8b0e577809fa4866f2fec968d912ba7897def89ffecf5f", func := "loop.example/nineplanes/laws.FnHexCloses", spec := "fnHexCloses", unfollowed := true, recurses := true, apart := false, narrowed := true }
def FnHexClosesUptoSaid : Prop := fnHexClosesUptoRow.holds Try.pinned (OpenSpec.upto fnHexClosesSpec)

/-- 'laws.FnExactTwinIn', WHERE WHAT IT READS IS OF BULK AT MOST 1048576: true; the input reads as it did. -/
def fnExactTwinInUptoRow : OpenClaim := { program := "ytiobhhcbdcbajaa", sum := "11a303b313502a951b8b0e577809fa4866f2fec968d912ba7897def89ffecf5f", func := "loop.example/nineplanes/laws.FnExactTwinIn", spec := "fnExactTwinIn", unfollowed := true, recurses := true, apart := false, narrowed := true }
def FnExactTwinInUptoSaid : Prop := fnExactTwinInUptoRow.holds Try.pinned (OpenSpec.upto fnExactTwinInSpec)

/-- 'laws.FnExactHexIn', WHERE WHAT IT READS IS OF BULK AT MOST 1048576: true; the input reads as it did. -/
def fnExactHexInUptoRow : OpenClaim := { program := "ytiobhhcbdcbajaa", sum := "11a303b313502a951b8b0e577809fa4866f2fec968d912ba7897def89ffecf5f", func := "loop.example/nineplanes/laws.FnExactHexIn", spec := "fnExactHexIn", unfollowed := true, recurses := true, apart := false, narrowed := true }
def FnExactHexInUptoSaid : Prop := fnExactHexInUptoRow.holds Try.pinned (OpenSpec.upto fnExactHexInSpec)

/-- 'laws.FnExactQuadLine', WHERE WHAT IT READS IS OF BULK AT MOST 1048576: true; the input reads as it did. -/
def fnExactQuadLineUptoRow : OpenClaim := { program := "ytiobhhcbdcbajaa", sum := "11a303b313502a951b8b0e577809fa4866f2fec968d912ba7897def89ffecf5f", func := "loop.example/nineplanes/laws.FnExactQuadLine", spec := "fnExactQuadLine", unfollowed := true, recurses := true, apart := false, narrowed := true }
def FnExactQuadLineUptoSaid : Prop := fnExactQuadLineUptoRow.holds Try.pinned (OpenSpec.upto fnExactQuadLineSpec)

/-- 'laws.FnExactHexCloses', WHERE WHAT IT READS IS OF BULK AT MOST 1048576: true; the input reads as it did. -/
def fnExactHexClosesUptoRow : OpenClaim := { program := "ytiobhhcbdcbajaa", sum := "11a303b313502a951b8b0e577809fa4866f2fec968d912ba7897def89ffecf5f", func := "loop.example/nineplanes/laws.FnExactHexCloses", spec := "fnExactHexCloses", unfollowed := true, recurses := true, apart := false, narrowed := true }
def FnExactHexClosesUptoSaid : Prop := fnExactHexClosesUptoRow.holds Try.pinned (OpenSpec.upto fnExactHexClosesSpec)

/-- 'laws.FnExactQuadPoints', WHERE WHAT IT READS IS OF BULK AT MOST 1048576: true; the input reads as it did. -/
def fnExactQuadPointsUptoRow : OpenClaim := { program := "ytiobhhcbdcbajaa", sum := "11a303b313502a951b8b0e577809fa4866f2fec968d912ba7897def89ffecf5f", func := "loop.example/nineplanes/laws.FnExactQuadPoints", spec := "fnExactQuadPoints", unfollowed := true, recurses := true, apart := false, narrowed := true }
def FnExactQuadPointsUptoSaid : Prop := fnExactQuadPointsUptoRow.holds Try.pinned (OpenSpec.upto fnExactQuadPointsSpec)

/-- 'laws.FnExactTwinCloses', WHERE WHAT IT READS IS OF BULK AT MOST 1048576: true; the input reads as it did. -/
def fnExactTwinClosesUptoRow : OpenClaim := { program := "ytiobhhcbdcbajaa", sum := "11a303b313502a951b8b0e577809fa4866f2fec968d912ba7897def89ffecf5f", func := "loop.example/nineplanes/laws.FnExactTwinCloses", spec := "fnExactTwinCloses", unfollowed := true, recurses := true, apart := false, narrowed := true }
def FnExactTwinClosesUptoSaid : Prop := fnExactTwinClosesUptoRow.holds Try.pinned (OpenSpec.upto fnExactTwinClosesSpec)

/-- 'laws.FnExactTwinPoints', WHERE WHAT IT READS IS OF BULK AT MOST 1048576: true; the input reads as it did. -/
def fnExactTwinPointsUptoRow : OpenClaim := { program := "ytiobhhcbdcbajaa", sum := "11a303b313502a951b8b0e577809fa4866f2fec968d912ba7897def89ffecf5f", func := "loop.example/nineplanes/laws.FnExactTwinPoints", spec := "fnExactTwinPoints", unfollowed := true, recurses := true, apart := false, narrowed := true }
def FnExactTwinPointsUptoSaid : Prop := fnExactTwinPointsUptoRow.holds Try.pinned (OpenSpec.upto fnExactTwinPointsSpec)

/-- 'laws.FnQuad', WHERE WHAT IT READS IS OF BULK AT MOST 1048576: true; the input reads as it did. -/
def fnQuadUptoRow : OpenClaim := { program := "ytiobhhcbdcbajaa", sum := "11a303b313502a951b8b0e577809fa4866f2fec968d912ba7897def89ffecf5f", func := "loop.example/nineplanes/laws.FnQuad", spec := "fnQuad", unfollowed := true, recurses := true, apart := false, narrowed := true }
def FnQuadUptoSaid : Prop := fnQuadUptoRow.holds Try.pinned (OpenSpec.upto fnQuadSpec)

end Rows
end Go.Proofs.Ytiobhhcbdcbajaa
