/-
  No cell of these rows narrows 'for every input' (looked for: loops, veiled, ifaces, maps, wideKeys, modest, calm, conditions, laid).
  DERIVED. THE GIVEN ROWS OF THIS SEAT. 14 by the template 'for every input the law returns true; each argument reads behind the call as it read before'; 0 by the template 'total and deterministic' (their statements: YtpfennpbemeikaaTotals.lean).
  GIVEN WITH THE SEED: the statements are not yours to turn. If you find one false, say at which input.
  Laid BY PROGRAM, IN A SANDBOX (cutbox-rows.mjs): the forced cells as the released guide's own fill.sh prints them over the translation 7861d6d109497486… (all of the seat's roots in one cut). By AI agents, Wed Nov 11 2026. No macro, syntax, notation, axiom, sorry.
-/
import Derived.Test.YtpfennpbemeikaaChecked
import GoSem.Claim
import GoSem.ClaimJoined
import GoSem.ClaimMapViews
import Derived.JoinedTies
import Derived.KernelRfl
namespace Go.Proofs.Ytpfennpbemeikaa
/- THE CELL 'sum', in the pinned program and in every row, IS THE sha256 OF THE DUMP (.gsa) THAT YtpfennpbemeikaaProg.lean LOADS. Nothing in Lean hashes anything: it is a label: what it is worth is what the hold of that sum in a sandbox is worth. -/
noncomputable def Try.pinned : Pinned := { name := "ytpfennpbemeikaa", sum := "7861d6d109497486b009d58e2afd72fba94e8a26584f2427d37e2ee7ba29881f", checked := Try.checked }
namespace Rows
def none {H : Type} : Left H := { results := [], args := [] }

/-- 'laws.FnExactPlaneOn': WHATEVER THE INPUT: true; the input reads as it did. -/
def fnExactPlaneOnSpec : ChangeSpec := { name := "fnExactPlaneOn", fn := fun _ => fun
  | [d1, d2, d3] => { results := [.lit (.bool true)], args := [d1, d2, d3] }
  | _ => none }
def fnExactPlaneOnRow : OpenClaim := { program := "ytpfennpbemeikaa", sum := "7861d6d109497486b009d58e2afd72fba94e8a26584f2427d37e2ee7ba29881f", func := "loop.example/nineplanes/laws.FnExactPlaneOn", spec := "fnExactPlaneOn", unfollowed := true, recurses := true, apart := false }
def FnExactPlaneOnSaid : Prop := fnExactPlaneOnRow.holds Try.pinned (OpenSpec.ofChange fnExactPlaneOnSpec)

/-- ITS FALSE NEIGHBOUR: 'it returns false'. Refute it at one input. -/
def fnExactPlaneOnWrong : ChangeSpec := { name := "fnExactPlaneOn", fn := fun _ => fun
  | [d1, d2, d3] => { results := [.lit (.bool false)], args := [d1, d2, d3] }
  | _ => none }
def FnExactPlaneOnWrongFalsely : Prop := fnExactPlaneOnRow.holds Try.pinned (OpenSpec.ofChange fnExactPlaneOnWrong)

/-- 'laws.FnExactPlaneJoin': WHATEVER THE INPUT: true; the input reads as it did. -/
def fnExactPlaneJoinSpec : ChangeSpec := { name := "fnExactPlaneJoin", fn := fun _ => fun
  | [d1, d2, d3] => { results := [.lit (.bool true)], args := [d1, d2, d3] }
  | _ => none }
def fnExactPlaneJoinRow : OpenClaim := { program := "ytpfennpbemeikaa", sum := "7861d6d109497486b009d58e2afd72fba94e8a26584f2427d37e2ee7ba29881f", func := "loop.example/nineplanes/laws.FnExactPlaneJoin", spec := "fnExactPlaneJoin", unfollowed := true, recurses := true, apart := false }
def FnExactPlaneJoinSaid : Prop := fnExactPlaneJoinRow.holds Try.pinned (OpenSpec.ofChange fnExactPlaneJoinSpec)

/-- ITS FALSE NEIGHBOUR: 'it returns false'. Refute it at one input. -/
def fnExactPlaneJoinWrong : ChangeSpec := { name := "fnExactPlaneJoin", fn := fun _ => fun
  | [d1, d2, d3] => { results := [.lit (.bool false)], args := [d1, d2, d3] }
  | _ => none }
def FnExactPlaneJoinWrongFalsely : Prop := fnExactPlaneJoinRow.holds Try.pinned (OpenSpec.ofChange fnExactPlaneJoinWrong)

/-- 'laws.FnExactPlaneMeet': WHATEVER THE INPUT: true; the input reads as it did. -/
def fnExactPlaneMeetSpec : ChangeSpec := { name := "fnExactPlaneMeet", fn := fun _ => fun
  | [d1, d2, d3] => { results := [.lit (.bool true)], args := [d1, d2, d3] }
  | _ => none }
def fnExactPlaneMeetRow : OpenClaim := { program := "ytpfennpbemeikaa", sum := "7861d6d109497486b009d58e2afd72fba94e8a26584f2427d37e2ee7ba29881f", func := "loop.example/nineplanes/laws.FnExactPlaneMeet", spec := "fnExactPlaneMeet", unfollowed := true, recurses := true, apart := false }
def FnExactPlaneMeetSaid : Prop := fnExactPlaneMeetRow.holds Try.pinned (OpenSpec.ofChange fnExactPlaneMeetSpec)

/-- ITS FALSE NEIGHBOUR: 'it returns false'. Refute it at one input. -/
def fnExactPlaneMeetWrong : ChangeSpec := { name := "fnExactPlaneMeet", fn := fun _ => fun
  | [d1, d2, d3] => { results := [.lit (.bool false)], args := [d1, d2, d3] }
  | _ => none }
def FnExactPlaneMeetWrongFalsely : Prop := fnExactPlaneMeetRow.holds Try.pinned (OpenSpec.ofChange fnExactPlaneMeetWrong)

/-- 'laws.FnExactPlaneLines': WHATEVER THE INPUT: true; the input reads as it did. -/
def fnExactPlaneLinesSpec : ChangeSpec := { name := "fnExactPlaneLines", fn := fun _ => fun
  | [d1, d2] => { results := [.lit (.bool true)], args := [d1, d2] }
  | _ => none }
def fnExactPlaneLinesRow : OpenClaim := { program := "ytpfennpbemeikaa", sum := "7861d6d109497486b009d58e2afd72fba94e8a26584f2427d37e2ee7ba29881f", func := "loop.example/nineplanes/laws.FnExactPlaneLines", spec := "fnExactPlaneLines", unfollowed := true, recurses := true, apart := false }
def FnExactPlaneLinesSaid : Prop := fnExactPlaneLinesRow.holds Try.pinned (OpenSpec.ofChange fnExactPlaneLinesSpec)

/-- ITS FALSE NEIGHBOUR: 'it returns false'. Refute it at one input. -/
def fnExactPlaneLinesWrong : ChangeSpec := { name := "fnExactPlaneLines", fn := fun _ => fun
  | [d1, d2] => { results := [.lit (.bool false)], args := [d1, d2] }
  | _ => none }
def FnExactPlaneLinesWrongFalsely : Prop := fnExactPlaneLinesRow.holds Try.pinned (OpenSpec.ofChange fnExactPlaneLinesWrong)

/-- 'laws.FnExactPlaneThree': WHATEVER THE INPUT: true; the input reads as it did. -/
def fnExactPlaneThreeSpec : ChangeSpec := { name := "fnExactPlaneThree", fn := fun _ => fun
  | [d1, d2, d3, d4] => { results := [.lit (.bool true)], args := [d1, d2, d3, d4] }
  | _ => none }
def fnExactPlaneThreeRow : OpenClaim := { program := "ytpfennpbemeikaa", sum := "7861d6d109497486b009d58e2afd72fba94e8a26584f2427d37e2ee7ba29881f", func := "loop.example/nineplanes/laws.FnExactPlaneThree", spec := "fnExactPlaneThree", unfollowed := true, recurses := true, apart := false }
def FnExactPlaneThreeSaid : Prop := fnExactPlaneThreeRow.holds Try.pinned (OpenSpec.ofChange fnExactPlaneThreeSpec)

/-- ITS FALSE NEIGHBOUR: 'it returns false'. Refute it at one input. -/
def fnExactPlaneThreeWrong : ChangeSpec := { name := "fnExactPlaneThree", fn := fun _ => fun
  | [d1, d2, d3, d4] => { results := [.lit (.bool false)], args := [d1, d2, d3, d4] }
  | _ => none }
def FnExactPlaneThreeWrongFalsely : Prop := fnExactPlaneThreeRow.holds Try.pinned (OpenSpec.ofChange fnExactPlaneThreeWrong)

/-- 'laws.FnExactPlanePoints': WHATEVER THE INPUT: true; the input reads as it did. -/
def fnExactPlanePointsSpec : ChangeSpec := { name := "fnExactPlanePoints", fn := fun _ => fun
  | [d1, d2] => { results := [.lit (.bool true)], args := [d1, d2] }
  | _ => none }
def fnExactPlanePointsRow : OpenClaim := { program := "ytpfennpbemeikaa", sum := "7861d6d109497486b009d58e2afd72fba94e8a26584f2427d37e2ee7ba29881f", func := "loop.example/nineplanes/laws.FnExactPlanePoints", spec := "fnExactPlanePoints", unfollowed := true, recurses := true, apart := false }
def FnExactPlanePointsSaid : Prop := fnExactPlanePointsRow.holds Try.pinned (OpenSpec.ofChange fnExactPlanePointsSpec)

/-- ITS FALSE NEIGHBOUR: 'it returns false'. Refute it at one input. -/
def fnExactPlanePointsWrong : ChangeSpec := { name := "fnExactPlanePoints", fn := fun _ => fun
  | [d1, d2] => { results := [.lit (.bool false)], args := [d1, d2] }
  | _ => none }
def FnExactPlanePointsWrongFalsely : Prop := fnExactPlanePointsRow.holds Try.pinned (OpenSpec.ofChange fnExactPlanePointsWrong)

/-- 'laws.FnExactPlaneApart': WHATEVER THE INPUT: true; the input reads as it did. -/
def fnExactPlaneApartSpec : ChangeSpec := { name := "fnExactPlaneApart", fn := fun _ => fun
  | [d1, d2] => { results := [.lit (.bool true)], args := [d1, d2] }
  | _ => none }
def fnExactPlaneApartRow : OpenClaim := { program := "ytpfennpbemeikaa", sum := "7861d6d109497486b009d58e2afd72fba94e8a26584f2427d37e2ee7ba29881f", func := "loop.example/nineplanes/laws.FnExactPlaneApart", spec := "fnExactPlaneApart", unfollowed := true, recurses := true, apart := false }
def FnExactPlaneApartSaid : Prop := fnExactPlaneApartRow.holds Try.pinned (OpenSpec.ofChange fnExactPlaneApartSpec)

/-- ITS FALSE NEIGHBOUR: 'it returns false'. Refute it at one input. -/
def fnExactPlaneApartWrong : ChangeSpec := { name := "fnExactPlaneApart", fn := fun _ => fun
  | [d1, d2] => { results := [.lit (.bool false)], args := [d1, d2] }
  | _ => none }
def FnExactPlaneApartWrongFalsely : Prop := fnExactPlaneApartRow.holds Try.pinned (OpenSpec.ofChange fnExactPlaneApartWrong)

/-- 'laws.FnOn': WHATEVER THE INPUT: true; the input reads as it did. -/
def fnOnSpec : ChangeSpec := { name := "fnOn", fn := fun _ => fun
  | [d] => { results := [.lit (.bool true)], args := [d] }
  | _ => none }
def fnOnRow : OpenClaim := { program := "ytpfennpbemeikaa", sum := "7861d6d109497486b009d58e2afd72fba94e8a26584f2427d37e2ee7ba29881f", func := "loop.example/nineplanes/laws.FnOn", spec := "fnOn", unfollowed := true, recurses := true, apart := false }
def FnOnSaid : Prop := fnOnRow.holds Try.pinned (OpenSpec.ofChange fnOnSpec)

/-- ITS FALSE NEIGHBOUR: 'it returns false'. Refute it at one input. -/
def fnOnWrong : ChangeSpec := { name := "fnOn", fn := fun _ => fun
  | [d] => { results := [.lit (.bool false)], args := [d] }
  | _ => none }
def FnOnWrongFalsely : Prop := fnOnRow.holds Try.pinned (OpenSpec.ofChange fnOnWrong)

/-- 'laws.FnJoin': WHATEVER THE INPUT: true; the input reads as it did. -/
def fnJoinSpec : ChangeSpec := { name := "fnJoin", fn := fun _ => fun
  | [d] => { results := [.lit (.bool true)], args := [d] }
  | _ => none }
def fnJoinRow : OpenClaim := { program := "ytpfennpbemeikaa", sum := "7861d6d109497486b009d58e2afd72fba94e8a26584f2427d37e2ee7ba29881f", func := "loop.example/nineplanes/laws.FnJoin", spec := "fnJoin", unfollowed := true, recurses := true, apart := false }
def FnJoinSaid : Prop := fnJoinRow.holds Try.pinned (OpenSpec.ofChange fnJoinSpec)

/-- ITS FALSE NEIGHBOUR: 'it returns false'. Refute it at one input. -/
def fnJoinWrong : ChangeSpec := { name := "fnJoin", fn := fun _ => fun
  | [d] => { results := [.lit (.bool false)], args := [d] }
  | _ => none }
def FnJoinWrongFalsely : Prop := fnJoinRow.holds Try.pinned (OpenSpec.ofChange fnJoinWrong)

/-- 'laws.FnMeet': WHATEVER THE INPUT: true; the input reads as it did. -/
def fnMeetSpec : ChangeSpec := { name := "fnMeet", fn := fun _ => fun
  | [d] => { results := [.lit (.bool true)], args := [d] }
  | _ => none }
def fnMeetRow : OpenClaim := { program := "ytpfennpbemeikaa", sum := "7861d6d109497486b009d58e2afd72fba94e8a26584f2427d37e2ee7ba29881f", func := "loop.example/nineplanes/laws.FnMeet", spec := "fnMeet", unfollowed := true, recurses := true, apart := false }
def FnMeetSaid : Prop := fnMeetRow.holds Try.pinned (OpenSpec.ofChange fnMeetSpec)

/-- ITS FALSE NEIGHBOUR: 'it returns false'. Refute it at one input. -/
def fnMeetWrong : ChangeSpec := { name := "fnMeet", fn := fun _ => fun
  | [d] => { results := [.lit (.bool false)], args := [d] }
  | _ => none }
def FnMeetWrongFalsely : Prop := fnMeetRow.holds Try.pinned (OpenSpec.ofChange fnMeetWrong)

/-- 'laws.FnLines': WHATEVER THE INPUT: true; the input reads as it did. -/
def fnLinesSpec : ChangeSpec := { name := "fnLines", fn := fun _ => fun
  | [d] => { results := [.lit (.bool true)], args := [d] }
  | _ => none }
def fnLinesRow : OpenClaim := { program := "ytpfennpbemeikaa", sum := "7861d6d109497486b009d58e2afd72fba94e8a26584f2427d37e2ee7ba29881f", func := "loop.example/nineplanes/laws.FnLines", spec := "fnLines", unfollowed := true, recurses := true, apart := false }
def FnLinesSaid : Prop := fnLinesRow.holds Try.pinned (OpenSpec.ofChange fnLinesSpec)

/-- ITS FALSE NEIGHBOUR: 'it returns false'. Refute it at one input. -/
def fnLinesWrong : ChangeSpec := { name := "fnLines", fn := fun _ => fun
  | [d] => { results := [.lit (.bool false)], args := [d] }
  | _ => none }
def FnLinesWrongFalsely : Prop := fnLinesRow.holds Try.pinned (OpenSpec.ofChange fnLinesWrong)

/-- 'laws.FnPoints': WHATEVER THE INPUT: true; the input reads as it did. -/
def fnPointsSpec : ChangeSpec := { name := "fnPoints", fn := fun _ => fun
  | [d] => { results := [.lit (.bool true)], args := [d] }
  | _ => none }
def fnPointsRow : OpenClaim := { program := "ytpfennpbemeikaa", sum := "7861d6d109497486b009d58e2afd72fba94e8a26584f2427d37e2ee7ba29881f", func := "loop.example/nineplanes/laws.FnPoints", spec := "fnPoints", unfollowed := true, recurses := true, apart := false }
def FnPointsSaid : Prop := fnPointsRow.holds Try.pinned (OpenSpec.ofChange fnPointsSpec)

/-- ITS FALSE NEIGHBOUR: 'it returns false'. Refute it at one input. -/
def fnPointsWrong : ChangeSpec := { name := "fnPoints", fn := fun _ => fun
  | [d] => { results := [.lit (.bool false)], args := [d] }
  | _ => none }
def FnPointsWrongFalsely : Prop := fnPointsRow.holds Try.pinned (OpenSpec.ofChange fnPointsWrong)

/-- 'laws.FnThree': WHATEVER THE INPUT: true; the input reads as it did. -/
def fnThreeSpec : ChangeSpec := { name := "fnThree", fn := fun _ => fun
  | [d] => { results := [.lit (.bool true)], args := [d] }
  | _ => none }
def fnThreeRow : OpenClaim := { program := "ytpfennpbemeikaa", sum := "7861d6d109497486b009d58e2afd72fba94e8a26584f2427d37e2ee7ba29881f", func := "loop.example/nineplanes/laws.FnThree", spec := "fnThree", unfollowed := true, recurses := true, apart := false }
def FnThreeSaid : Prop := fnThreeRow.holds Try.pinned (OpenSpec.ofChange fnThreeSpec)

/-- ITS FALSE NEIGHBOUR: 'it returns false'. Refute it at one input. -/
def fnThreeWrong : ChangeSpec := { name := "fnThree", fn := fun _ => fun
  | [d] => { results := [.lit (.bool false)], args := [d] }
  | _ => none }
def FnThreeWrongFalsely : Prop := fnThreeRow.holds Try.pinned (OpenSpec.ofChange fnThreeWrong)

/-- 'laws.FnApart': WHATEVER THE INPUT: true; the input reads as it did. -/
def fnApartSpec : ChangeSpec := { name := "fnApart", fn := fun _ => fun
  | [d] => { results := [.lit (.bool true)], args := [d] }
  | _ => none }
def fnApartRow : OpenClaim := { program := "ytpfennpbemeikaa", sum := "7861d6d109497486b009d58e2afd72fba94e8a26584f2427d37e2ee7ba29881f", func := "loop.example/nineplanes/laws.FnApart", spec := "fnApart", unfollowed := true, recurses := true, apart := false }
def FnApartSaid : Prop := fnApartRow.holds Try.pinned (OpenSpec.ofChange fnApartSpec)

/-- ITS FALSE NEIGHBOUR: 'it returns false'. Refute it at one input. -/
def fnApartWrong : ChangeSpec := { name := "fnApart", fn := fun _ => fun
  | [d] => { results := [.lit (.bool false)], args := [d] }
  | _ => none }
def FnApartWrongFalsely : Prop := fnApartRow.holds Try.pinned (OpenSpec.ofChange fnApartWrong)

/- THE SECOND FORM. 'bulk': how many values and letters a reading holds, each counted each time it is reached (what is shared counts as often as it is met; a slice's spare places count too). A statement '..UptoSaid' is the law's where the arguments, and the package variables that the reading takes, are together of bulk at most 1048576: NARROWER than '..Said'. Prove '..Said' where nothing that the law and all that it calls make is longer than what came in: it says more and counts as full. Else prove '..UptoSaid'. A law counts once. -/
mutual
def uptoBulk {H : Type} : DataW H → Nat
  | .lit (.string bytes) => bytes.length + 1
  | .lit _ => 1
  | .nil => 1
  | .ptr d => uptoBulk d + 1
  | .slice elems spare => uptoBulkAll elems + uptoBulkAll spare + 1
  | .agg parts => uptoBulkAll parts + 1
  | .iface _ d => uptoBulk d + 1
  | .map entries => uptoBulkEntries entries + 1
  | .held _ => 1
def uptoBulkAll {H : Type} : List (DataW H) → Nat
  | [] => 0
  | d :: r => uptoBulk d + uptoBulkAll r
def uptoBulkEntries {H : Type} : List (Lit × DataW H) → Nat
  | [] => 0
  | x :: r => uptoBulkEntry x + uptoBulkEntries r
def uptoBulkEntry {H : Type} : Lit × DataW H → Nat
  | (.string bytes, d) => bytes.length + uptoBulk d + 1
  | (_, d) => uptoBulk d + 1
 end
def uptoSmall : (H : Type) → List (DataW H) → Bool := fun _ ds => decide (uptoBulkAll ds ≤ 1048576)
def OpenSpec.upto (s : _root_.Go.ChangeSpec) : _root_.Go.OpenSpec := { _root_.Go.OpenSpec.ofChange s with cond := some uptoSmall }

/-- 'laws.FnExactPlaneOn', WHERE WHAT IT READS IS OF BULK AT MOST 1048576: true; the input reads as it did. -/
def fnExactPlaneOnUptoRow : OpenClaim := { program := "ytpfennpbemeikaa", sum := "7861d6d109497486b009d58e2afd72fba94e8a26584f2427d37e2ee7ba29881f", func := "loop.example/nineplanes/laws.FnExactPlaneOn", spec := "fnExactPlaneOn", unfollowed := true, recurses := true, apart := false, narrowed := true }
def FnExactPlaneOnUptoSaid : Prop := fnExactPlaneOnUptoRow.holds Try.pinned (OpenSpec.upto fnExactPlaneOnSpec)

/-- 'laws.FnExactPlaneJoin', WHERE WHAT IT READS IS OF BULK AT MOST 1048576: true; the input reads as it did. -/
def fnExactPlaneJoinUptoRow : OpenClaim := { program := "ytpfennpbemeikaa", sum := "7861d6d109497486b009d58e2afd72fba94e8a26584f2427d37e2ee7ba29881f", func := "loop.example/nineplanes/laws.FnExactPlaneJoin", spec := "fnExactPlaneJoin", unfollowed := true, recurses := true, apart := false, narrowed := true }
def FnExactPlaneJoinUptoSaid : Prop := fnExactPlaneJoinUptoRow.holds Try.pinned (OpenSpec.upto fnExactPlaneJoinSpec)

/-- 'laws.FnExactPlaneMeet', WHERE WHAT IT READS IS OF BULK AT MOST 1048576: true; the input reads as it did. -/
def fnExactPlaneMeetUptoRow : OpenClaim := { program := "ytpfennpbemeikaa", sum := "7861d6d109497486b009d58e2afd72fba94e8a26584f2427d37e2ee7ba29881f", func := "loop.example/nineplanes/laws.FnExactPlaneMeet", spec := "fnExactPlaneMeet", unfollowed := true, recurses := true, apart := false, narrowed := true }
def FnExactPlaneMeetUptoSaid : Prop := fnExactPlaneMeetUptoRow.holds Try.pinned (OpenSpec.upto fnExactPlaneMeetSpec)

/-- 'laws.FnExactPlaneLines', WHERE WHAT IT READS IS OF BULK AT MOST 1048576: true; the input reads as it did. -/
def fnExactPlaneLinesUptoRow : OpenClaim := { program := "ytpfennpbemeikaa", sum := "7861d6d109497486b009d58e2afd72fba94e8a26584f2427d37e2ee7ba29881f", func := "loop.example/nineplanes/laws.FnExactPlaneLines", spec := "fnExactPlaneLines", unfollowed := true, recurses := true, apart := false, narrowed := true }
def FnExactPlaneLinesUptoSaid : Prop := fnExactPlaneLinesUptoRow.holds Try.pinned (OpenSpec.upto fnExactPlaneLinesSpec)

/-- 'laws.FnExactPlaneThree', WHERE WHAT IT READS IS OF BULK AT MOST 1048576: true; the input reads as it did. -/
def fnExactPlaneThreeUptoRow : OpenClaim := { program := "ytpfennpbemeikaa", sum := "7861d6d109497486b009d58e2afd72fba94e8a26584f2427d37e2ee7ba29881f", func := "loop.example/nineplanes/laws.FnExactPlaneThree", spec := "fnExactPlaneThree", unfollowed := true, recurses := true, apart := false, narrowed := true }
def FnExactPlaneThreeUptoSaid : Prop := fnExactPlaneThreeUptoRow.holds Try.pinned (OpenSpec.upto fnExactPlaneThreeSpec)

/-- 'laws.FnExactPlanePoints', WHERE WHAT IT READS IS OF BULK AT MOST 1048576: true; the input reads as it did. -/
def fnExactPlanePointsUptoRow : OpenClaim := { program := "ytpfennpbemeikaa", sum := "7861d6d109497486b009d58e2afd72fba94e8a26584f2427d37e2ee7ba29881f", func := "loop.example/nineplanes/laws.FnExactPlanePoints", spec := "fnExactPlanePoints", unfollowed := true, recurses := true, apart := false, narrowed := true }
def FnExactPlanePointsUptoSaid : Prop := fnExactPlanePointsUptoRow.holds Try.pinned (OpenSpec.upto fnExactPlanePointsSpec)

/-- 'laws.FnExactPlaneApart', WHERE WHAT IT READS IS OF BULK AT MOST 1048576: true; the input reads as it did. -/
def fnExactPlaneApartUptoRow : OpenClaim := { program := "ytpfennpbemeikaa", sum := "7861d6d109497486b009d58e2afd72fba94e8a26584f2427d37e2ee7ba29881f", func := "loop.example/nineplanes/laws.FnExactPlaneApart", spec := "fnExactPlaneApart", unfollowed := true, recurses := true, apart := false, narrowed := true }
def FnExactPlaneApartUptoSaid : Prop := fnExactPlaneApartUptoRow.holds Try.pinned (OpenSpec.upto fnExactPlaneApartSpec)

/-- 'laws.FnOn', WHERE WHAT IT READS IS OF BULK AT MOST 1048576: true; the input reads as it did. -/
def fnOnUptoRow : OpenClaim := { program := "ytpfennpbemeikaa", sum := "7861d6d109497486b009d58e2afd72fba94e8a26584f2427d37e2ee7ba29881f", func := "loop.example/nineplanes/laws.FnOn", spec := "fnOn", unfollowed := true, recurses := true, apart := false, narrowed := true }
def FnOnUptoSaid : Prop := fnOnUptoRow.holds Try.pinned (OpenSpec.upto fnOnSpec)

/-- 'laws.FnJoin', WHERE WHAT IT READS IS OF BULK AT MOST 1048576: true; the input reads as it did. -/
def fnJoinUptoRow : OpenClaim := { program := "ytpfennpbemeikaa", sum := "7861d6d109497486b009d58e2afd72fba94e8a26584f2427d37e2ee7ba29881f", func := "loop.example/nineplanes/laws.FnJoin", spec := "fnJoin", unfollowed := true, recurses := true, apart := false, narrowed := true }
def FnJoinUptoSaid : Prop := fnJoinUptoRow.holds Try.pinned (OpenSpec.upto fnJoinSpec)

/-- 'laws.FnMeet', WHERE WHAT IT READS IS OF BULK AT MOST 1048576: true; the input reads as it did. -/
def fnMeetUptoRow : OpenClaim := { program := "ytpfennpbemeikaa", sum := "7861d6d109497486b009d58e2afd72fba94e8a26584f2427d37e2ee7ba29881f", func := "loop.example/nineplanes/laws.FnMeet", spec := "fnMeet", unfollowed := true, recurses := true, apart := false, narrowed := true }
def FnMeetUptoSaid : Prop := fnMeetUptoRow.holds Try.pinned (OpenSpec.upto fnMeetSpec)

/-- 'laws.FnLines', WHERE WHAT IT READS IS OF BULK AT MOST 1048576: true; the input reads as it did. -/
def fnLinesUptoRow : OpenClaim := { program := "ytpfennpbemeikaa", sum := "7861d6d109497486b009d58e2afd72fba94e8a26584f2427d37e2ee7ba29881f", func := "loop.example/nineplanes/laws.FnLines", spec := "fnLines", unfollowed := true, recurses := true, apart := false, narrowed := true }
def FnLinesUptoSaid : Prop := fnLinesUptoRow.holds Try.pinned (OpenSpec.upto fnLinesSpec)

/-- 'laws.FnPoints', WHERE WHAT IT READS IS OF BULK AT MOST 1048576: true; the input reads as it did. -/
def fnPointsUptoRow : OpenClaim := { program := "ytpfennpbemeikaa", sum := "7861d6d109497486b009d58e2afd72fba94e8a26584f2427d37e2ee7ba29881f", func := "loop.example/nineplanes/laws.FnPoints", spec := "fnPoints", unfollowed := true, recurses := true, apart := false, narrowed := true }
def FnPointsUptoSaid : Prop := fnPointsUptoRow.holds Try.pinned (OpenSpec.upto fnPointsSpec)

/-- 'laws.FnThree', WHERE WHAT IT READS IS OF BULK AT MOST 1048576: true; the input reads as it did. -/
def fnThreeUptoRow : OpenClaim := { program := "ytpfennpbemeikaa", sum := "7861d6d109497486b009d58e2afd72fba94e8a26584f2427d37e2ee7ba29881f", func := "loop.example/nineplanes/laws.FnThree", spec := "fnThree", unfollowed := true, recurses := true, apart := false, narrowed := true }
def FnThreeUptoSaid : Prop := fnThreeUptoRow.holds Try.pinned (OpenSpec.upto fnThreeSpec)

/-- 'laws.FnApart', WHERE WHAT IT READS IS OF BULK AT MOST 1048576: true; the input reads as it did. -/
def fnApartUptoRow : OpenClaim := { program := "ytpfennpbemeikaa", sum := "7861d6d109497486b009d58e2afd72fba94e8a26584f2427d37e2ee7ba29881f", func := "loop.example/nineplanes/laws.FnApart", spec := "fnApart", unfollowed := true, recurses := true, apart := false, narrowed := true }
def FnApartUptoSaid : Prop := fnApartUptoRow.holds Try.pinned (OpenSpec.upto fnApartSpec)

end Rows
end Go.Proofs.Ytpfennpbemeikaa
