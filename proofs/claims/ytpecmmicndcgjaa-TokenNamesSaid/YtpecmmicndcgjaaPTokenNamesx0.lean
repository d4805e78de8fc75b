-- PRINTED BY print.sh 35421559b90ae4d0a3588c463048766b98c2df88dd9212a6774a882060cdf62d: not written by this session
import Derived.Test.YtpecmmicndcgjaaProg
import Derived.Below
import Derived.Deep.Draws
import Derived.Deep.AppendLies
import Derived.Maps.AppendAt
import Derived.OwnWalk
import Derived.Laws.BytesArg
import Derived.Laws.MakeOwn
import Derived.Laws.OwnMore
import Derived.Deep.OwnRows
import Derived.Tactics
import Derived.Lib.ConvBytes
import Derived.Laws.Slices
import Derived.WalkKit
import Derived.KernelRfl
import Derived.RowKit3
import Derived.Deep.LoopGhost
import Derived.Deep.QuietTactic
import Derived.BigQuiet
import Derived.WideLaws
import Derived.Deep.DeepCutAuto
import Derived.Deep.CutBlock
import Derived.Deep.RegionHeld3
import Derived.Laws.Rows
import Derived.Lib.AppendStr
import Derived.ArgAppend
import Derived.Laws.IdiomCopy
import Derived.OrdersHeld
import Derived.Laws.BitsLemmas
import Derived.RowKit
import Derived.Test.YtpecmmicndcgjaaWWords
import Derived.Test.YtpecmmicndcgjaaWLast
import Derived.Test.YtpecmmicndcgjaaWTab
import Derived.Test.YtpecmmicndcgjaaWFour
import Derived.Test.YtpecmmicndcgjaaWQPut
import Derived.Test.YtpecmmicndcgjaaWApart
import Derived.Test.YtpecmmicndcgjaaWArr
import Derived.Test.YtpecmmicndcgjaaWZeros
import Derived.Test.YtpecmmicndcgjaaWFoot
import Derived.Test.YtpecmmicndcgjaaWKept
import Derived.Test.YtpecmmicndcgjaaWShare
import Derived.Test.YtpecmmicndcgjaaWN
import Derived.Test.YtpecmmicndcgjaaWFootNe
import Derived.Test.YtpecmmicndcgjaaWAt
import Derived.Test.YtpecmmicndcgjaaWEqStruct
import Derived.Test.YtpecmmicndcgjaaWRepsOne
import Derived.Test.YtpecmmicndcgjaaWInv
import Derived.Test.YtpecmmicndcgjaaWInvWords
import Derived.Test.YtpecmmicndcgjaaWGuard
import Derived.Test.YtpecmmicndcgjaaWNEv
import Derived.Test.YtpecmmicndcgjaaWMore
namespace Go.Proofs.Ytpecmmicndcgjaa.PTokenNames
open Go.RowKit Go.Proofs.YtpecmmicndcgjaaW.PrintWords Go.Proofs.YtpecmmicndcgjaaW.PrintLast Go.Proofs.YtpecmmicndcgjaaW.PrintMore
attribute [local go_sem] max2_int min2_int max_two min_two max_three min_three max_four min_four   -- for this text's walks alone
set_option linter.unusedVariables false
set_option linter.unusedSimpArgs false



def errW : Option Int → Value
  | none => .nilIface
  | some c => .iface 0 (.int .i64 c)
theorem errW_none : errW none = .nilIface := rfl
theorem errW_some (c : Int) : errW (some c) = .iface 0 (.int .i64 c) := rfl

-- the values' own types

end Go.Proofs.Ytpecmmicndcgjaa.PTokenNames
