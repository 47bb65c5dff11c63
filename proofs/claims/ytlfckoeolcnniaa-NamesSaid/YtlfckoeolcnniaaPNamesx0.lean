-- PRINTED BY print.sh 35421559b90ae4d0a3588c463048766b98c2df88dd9212a6774a882060cdf62d: not written by this session
import Derived.Test.YtlfckoeolcnniaaProg
import Derived.Below
import Derived.Deep.Draws
import Derived.Deep.AppendLies
import Derived.Maps.AppendAt
import Derived.OwnWalk
import Derived.Laws.BytesArg
import Derived.Laws.MakeOwn
import Derived.Laws.OwnMore
import Derived.Deep.OwnRows
import Derived.Tactics
import Derived.Lib.ConvBytes
import Derived.Laws.Slices
import Derived.WalkKit
import Derived.KernelRfl
import Derived.RowKit3
import Derived.Deep.LoopGhost
import Derived.Deep.QuietTactic
import Derived.BigQuiet
import Derived.WideLaws
import Derived.Deep.DeepCutAuto
import Derived.Deep.CutBlock
import Derived.Deep.RegionHeld3
import Derived.Laws.Rows
import Derived.Lib.AppendStr
import Derived.ArgAppend
import Derived.Laws.IdiomCopy
import Derived.OrdersHeld
import Derived.Laws.BitsLemmas
import Derived.RowKit
import Derived.Test.YtlfckoeolcnniaaWWords
import Derived.Test.YtlfckoeolcnniaaWLast
import Derived.Test.YtlfckoeolcnniaaWTab
import Derived.Test.YtlfckoeolcnniaaWFour
import Derived.Test.YtlfckoeolcnniaaWQPut
import Derived.Test.YtlfckoeolcnniaaWApart
import Derived.Test.YtlfckoeolcnniaaWArr
import Derived.Test.YtlfckoeolcnniaaWZeros
import Derived.Test.YtlfckoeolcnniaaWFoot
import Derived.Test.YtlfckoeolcnniaaWKept
import Derived.Test.YtlfckoeolcnniaaWShare
import Derived.Test.YtlfckoeolcnniaaWN
import Derived.Test.YtlfckoeolcnniaaWFootNe
import Derived.Test.YtlfckoeolcnniaaWAt
import Derived.Test.YtlfckoeolcnniaaWEqStruct
import Derived.Test.YtlfckoeolcnniaaWRepsOne
import Derived.Test.YtlfckoeolcnniaaWInv
import Derived.Test.YtlfckoeolcnniaaWInvWords
import Derived.Test.YtlfckoeolcnniaaWGuard
import Derived.Test.YtlfckoeolcnniaaWNEv
import Derived.Test.YtlfckoeolcnniaaWMore
namespace Go.Proofs.Ytlfckoeolcnniaa.PNames
open Go.RowKit Go.Proofs.YtlfckoeolcnniaaW.PrintWords Go.Proofs.YtlfckoeolcnniaaW.PrintLast Go.Proofs.YtlfckoeolcnniaaW.PrintMore
attribute [local go_sem] max2_int min2_int max_two min_two max_three min_three max_four min_four   -- for this text's walks alone
set_option linter.unusedVariables false
set_option linter.unusedSimpArgs false



def errW : Option Int → Value
  | none => .nilIface
  | some c => .iface 0 (.int .i64 c)
theorem errW_none : errW none = .nilIface := rfl
theorem errW_some (c : Int) : errW (some c) = .iface 0 (.int .i64 c) := rfl

theorem info3 : (Try.prog.info? 3).map (fun i => (i.zero, i.size, i.bytes)) = some (some (.int .i64 0), 1, 8) := by kernel_rfl
-- the values' own types

end Go.Proofs.Ytlfckoeolcnniaa.PNames
