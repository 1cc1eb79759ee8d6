/- Contracts of Go functions of the given program: each says, under its own hypotheses, what a call returns and leaves. Written by this claim's own program over the kit's print. -/
import Derived.Test.YtpkcbpjhgaeeoaaProg
import Derived.Below
import Derived.Deep.Draws
import Derived.Deep.AppendLies
import Derived.Maps.AppendAt
import Derived.OwnWalk
import Derived.Laws.BytesArg
import Derived.Laws.MakeOwn
import Derived.Laws.OwnMore
import Derived.Deep.OwnRows
import Derived.Tactics
import Derived.Lib.ConvBytes
import Derived.Laws.Slices
import Derived.WalkKit
import Derived.KernelRfl
import Derived.RowKit3
import Derived.Deep.LoopGhost
import Derived.Deep.QuietTactic
import Derived.BigQuiet
import Derived.WideLaws
import Derived.Deep.DeepCutAuto
import Derived.Deep.CutBlock
import Derived.Deep.RegionHeld3
import Derived.Laws.Rows
import Derived.Lib.AppendStr
import Derived.ArgAppend
import Derived.Laws.IdiomCopy
import Derived.OrdersHeld
import Derived.Laws.BitsLemmas
import Derived.RowKit
import Derived.Shelf.Abstract
import Derived.Test.YtpkcbpjhgaeeoaaWWords
import Derived.Test.YtpkcbpjhgaeeoaaWLast
import Derived.Test.YtpkcbpjhgaeeoaaWTab
import Derived.Test.YtpkcbpjhgaeeoaaWFour
import Derived.Test.YtpkcbpjhgaeeoaaWQPut
import Derived.Test.YtpkcbpjhgaeeoaaWApart
import Derived.Test.YtpkcbpjhgaeeoaaWArr
import Derived.Test.YtpkcbpjhgaeeoaaWZeros
import Derived.Test.YtpkcbpjhgaeeoaaWFoot
import Derived.Test.YtpkcbpjhgaeeoaaWKept
import Derived.Test.YtpkcbpjhgaeeoaaWShare
import Derived.Test.YtpkcbpjhgaeeoaaWN
import Derived.Test.YtpkcbpjhgaeeoaaWFootNe
import Derived.Test.YtpkcbpjhgaeeoaaWAt
import Derived.Test.YtpkcbpjhgaeeoaaWEqStruct
import Derived.Test.YtpkcbpjhgaeeoaaWRepsOne
import Derived.Test.YtpkcbpjhgaeeoaaWInv
import Derived.Test.YtpkcbpjhgaeeoaaWInvWords
import Derived.Test.YtpkcbpjhgaeeoaaWGuard
import Derived.Test.YtpkcbpjhgaeeoaaWNEv
import Derived.Test.YtpkcbpjhgaeeoaaWMore
namespace Go.Proofs.Ytpkcbpjhgaeeoaa.P
open Go.RowKit Go.Proofs.YtpkcbpjhgaeeoaaW.PrintWords Go.Proofs.YtpkcbpjhgaeeoaaW.PrintLast Go.Proofs.YtpkcbpjhgaeeoaaW.PrintMore
attribute [local go_sem] max2_int min2_int max_two min_two max_three min_three max_four min_four   -- for this text's walks alone
set_option linter.unusedVariables false
set_option linter.unusedSimpArgs false



def errW : Option Int → Value
  | none => .nilIface
  | some c => .iface 0 (.int .i64 c)
theorem errW_none : errW none = .nilIface := rfl
theorem errW_some (c : Int) : errW (some c) = .iface 0 (.int .i64 c) := rfl

theorem info3 : (Try.prog.info? 3).map (fun i => (i.zero, i.size, i.bytes)) = some (some (.int .i64 0), 1, 8) := by kernel_rfl
-- the values' own types

end Go.Proofs.Ytpkcbpjhgaeeoaa.P
