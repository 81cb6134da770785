-- PRINTED BY print.sh 35421559b90ae4d0a3588c463048766b98c2df88dd9212a6774a882060cdf62d: not written by this session
import Derived.Test.YtbchlolgphnmnaaProg
import Derived.Below
import Derived.Deep.Draws
import Derived.Deep.AppendLies
import Derived.Maps.AppendAt
import Derived.OwnWalk
import Derived.Laws.BytesArg
import Derived.Laws.MakeOwn
import Derived.Laws.OwnMore
import Derived.Deep.OwnRows
import Derived.Tactics
import Derived.Lib.ConvBytes
import Derived.Laws.Slices
import Derived.WalkKit
import Derived.KernelRfl
import Derived.RowKit3
import Derived.Deep.LoopGhost
import Derived.Deep.QuietTactic
import Derived.BigQuiet
import Derived.WideLaws
import Derived.Deep.DeepCutAuto
import Derived.Deep.CutBlock
import Derived.Deep.RegionHeld3
import Derived.Laws.Rows
import Derived.Lib.AppendStr
import Derived.ArgAppend
import Derived.Laws.IdiomCopy
import Derived.OrdersHeld
import Derived.Laws.BitsLemmas
import Derived.RowKit
import Derived.Test.YtbchlolgphnmnaaWWords
import Derived.Test.YtbchlolgphnmnaaWLast
import Derived.Test.YtbchlolgphnmnaaWTab
import Derived.Test.YtbchlolgphnmnaaWFour
import Derived.Test.YtbchlolgphnmnaaWQPut
import Derived.Test.YtbchlolgphnmnaaWApart
import Derived.Test.YtbchlolgphnmnaaWArr
import Derived.Test.YtbchlolgphnmnaaWZeros
import Derived.Test.YtbchlolgphnmnaaWFoot
import Derived.Test.YtbchlolgphnmnaaWKept
import Derived.Test.YtbchlolgphnmnaaWShare
import Derived.Test.YtbchlolgphnmnaaWN
import Derived.Test.YtbchlolgphnmnaaWFootNe
import Derived.Test.YtbchlolgphnmnaaWAt
import Derived.Test.YtbchlolgphnmnaaWEqStruct
import Derived.Test.YtbchlolgphnmnaaWRepsOne
import Derived.Test.YtbchlolgphnmnaaWInv
import Derived.Test.YtbchlolgphnmnaaWInvWords
import Derived.Test.YtbchlolgphnmnaaWGuard
import Derived.Test.YtbchlolgphnmnaaWNEv
import Derived.Test.YtbchlolgphnmnaaWMore
namespace Go.Proofs.Ytbchlolgphnmnaa.PFnExactUlebBytes
open Go.RowKit Go.Proofs.YtbchlolgphnmnaaW.PrintWords Go.Proofs.YtbchlolgphnmnaaW.PrintLast Go.Proofs.YtbchlolgphnmnaaW.PrintMore
attribute [local go_sem] max2_int min2_int max_two min_two max_three min_three max_four min_four   -- for this text's walks alone
set_option linter.unusedVariables false
set_option linter.unusedSimpArgs false



def errW : Option Int → Value
  | none => .nilIface
  | some c => .iface 0 (.int .i64 c)
theorem errW_none : errW none = .nilIface := rfl
theorem errW_some (c : Int) : errW (some c) = .iface 0 (.int .i64 c) := rfl

theorem info5 : (Try.prog.info? 5).map (fun i => (i.zero, i.size, i.bytes)) = some (some (.int .u8 0), 1, 1) := by kernel_rfl
-- the values' own types

end Go.Proofs.Ytbchlolgphnmnaa.PFnExactUlebBytes
