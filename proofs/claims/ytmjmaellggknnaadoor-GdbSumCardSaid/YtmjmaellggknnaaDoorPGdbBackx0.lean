-- PRINTED BY print.sh 35421559b90ae4d0a3588c463048766b98c2df88dd9212a6774a882060cdf62d: not written by this session
import Derived.Test.YtmjmaellggknnaaDoorProg
import Derived.Below
import Derived.Deep.Draws
import Derived.Deep.AppendLies
import Derived.Maps.AppendAt
import Derived.OwnWalk
import Derived.Laws.BytesArg
import Derived.Laws.MakeOwn
import Derived.Laws.OwnMore
import Derived.Deep.OwnRows
import Derived.Tactics
import Derived.Lib.ConvBytes
import Derived.Laws.Slices
import Derived.WalkKit
import Derived.KernelRfl
import Derived.RowKit3
import Derived.Deep.LoopGhost
import Derived.Deep.QuietTactic
import Derived.BigQuiet
import Derived.WideLaws
import Derived.Deep.DeepCutAuto
import Derived.Deep.CutBlock
import Derived.Deep.RegionHeld3
import Derived.Laws.Rows
import Derived.Lib.AppendStr
import Derived.ArgAppend
import Derived.Laws.IdiomCopy
import Derived.OrdersHeld
import Derived.Laws.BitsLemmas
import Derived.RowKit
import Derived.Test.YtmjmaellggknnaaDoorWWords
import Derived.Test.YtmjmaellggknnaaDoorWLast
import Derived.Test.YtmjmaellggknnaaDoorWTab
import Derived.Test.YtmjmaellggknnaaDoorWFour
import Derived.Test.YtmjmaellggknnaaDoorWQPut
import Derived.Test.YtmjmaellggknnaaDoorWApart
import Derived.Test.YtmjmaellggknnaaDoorWArr
import Derived.Test.YtmjmaellggknnaaDoorWZeros
import Derived.Test.YtmjmaellggknnaaDoorWFoot
import Derived.Test.YtmjmaellggknnaaDoorWKept
import Derived.Test.YtmjmaellggknnaaDoorWShare
import Derived.Test.YtmjmaellggknnaaDoorWN
import Derived.Test.YtmjmaellggknnaaDoorWFootNe
import Derived.Test.YtmjmaellggknnaaDoorWAt
import Derived.Test.YtmjmaellggknnaaDoorWEqStruct
import Derived.Test.YtmjmaellggknnaaDoorWRepsOne
import Derived.Test.YtmjmaellggknnaaDoorWInv
import Derived.Test.YtmjmaellggknnaaDoorWInvWords
import Derived.Test.YtmjmaellggknnaaDoorWGuard
import Derived.Test.YtmjmaellggknnaaDoorWNEv
import Derived.Test.YtmjmaellggknnaaDoorWMore
namespace Go.Proofs.YtmjmaellggknnaaDoor.PGdbBack
open Go.RowKit Go.Proofs.YtmjmaellggknnaaDoorW.PrintWords Go.Proofs.YtmjmaellggknnaaDoorW.PrintLast Go.Proofs.YtmjmaellggknnaaDoorW.PrintMore
attribute [local go_sem] max2_int min2_int max_two min_two max_three min_three max_four min_four   -- for this text's walks alone
set_option linter.unusedVariables false
set_option linter.unusedSimpArgs false



def errW : Option Int → Value
  | none => .nilIface
  | some c => .iface 0 (.int .i64 c)
theorem errW_none : errW none = .nilIface := rfl
theorem errW_some (c : Int) : errW (some c) = .iface 0 (.int .i64 c) := rfl

theorem info5 : (Tryd.prog.info? 5).map (fun i => (i.zero, i.size, i.bytes)) = some (some (.int .u8 0), 1, 1) := by kernel_rfl
-- the values' own types

end Go.Proofs.YtmjmaellggknnaaDoor.PGdbBack
