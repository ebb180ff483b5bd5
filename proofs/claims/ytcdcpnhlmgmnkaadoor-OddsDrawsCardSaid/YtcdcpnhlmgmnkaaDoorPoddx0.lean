-- made for this claim by a program of this session (mkpp.py)
import Derived.Test.YtcdcpnhlmgmnkaaDoorProg
import Derived.Below
import Derived.Deep.Draws
import Derived.Deep.AppendLies
import Derived.Maps.AppendAt
import Derived.OwnWalk
import Derived.Laws.BytesArg
import Derived.Laws.MakeOwn
import Derived.Laws.OwnMore
import Derived.Deep.OwnRows
import Derived.Tactics
import Derived.Lib.ConvBytes
import Derived.Laws.Slices
import Derived.WalkKit
import Derived.KernelRfl
import Derived.RowKit3
import Derived.Deep.LoopGhost
import Derived.Deep.QuietTactic
import Derived.BigQuiet
import Derived.WideLaws
import Derived.Deep.DeepCutAuto
import Derived.Deep.CutBlock
import Derived.Deep.RegionHeld3
import Derived.Laws.Rows
import Derived.Lib.AppendStr
import Derived.ArgAppend
import Derived.Laws.IdiomCopy
import Derived.OrdersHeld
import Derived.Laws.BitsLemmas
import Derived.RowKit
import Derived.Test.YtcdcpnhlmgmnkaaDoorWWords
import Derived.Test.YtcdcpnhlmgmnkaaDoorWLast
import Derived.Test.YtcdcpnhlmgmnkaaDoorWTab
import Derived.Test.YtcdcpnhlmgmnkaaDoorWFour
import Derived.Test.YtcdcpnhlmgmnkaaDoorWQPut
import Derived.Test.YtcdcpnhlmgmnkaaDoorWApart
import Derived.Test.YtcdcpnhlmgmnkaaDoorWArr
import Derived.Test.YtcdcpnhlmgmnkaaDoorWZeros
import Derived.Test.YtcdcpnhlmgmnkaaDoorWFoot
import Derived.Test.YtcdcpnhlmgmnkaaDoorWKept
import Derived.Test.YtcdcpnhlmgmnkaaDoorWShare
import Derived.Test.YtcdcpnhlmgmnkaaDoorWN
import Derived.Test.YtcdcpnhlmgmnkaaDoorWFootNe
import Derived.Test.YtcdcpnhlmgmnkaaDoorWAt
import Derived.Test.YtcdcpnhlmgmnkaaDoorWEqStruct
import Derived.Test.YtcdcpnhlmgmnkaaDoorWRepsOne
import Derived.Test.YtcdcpnhlmgmnkaaDoorWInv
import Derived.Test.YtcdcpnhlmgmnkaaDoorWInvWords
import Derived.Test.YtcdcpnhlmgmnkaaDoorWGuard
import Derived.Test.YtcdcpnhlmgmnkaaDoorWNEv
import Derived.Test.YtcdcpnhlmgmnkaaDoorWMore
import Derived.Test.YtcdcpnhlmgmnkaaDoorBaseOdd
namespace Go.Proofs.YtcdcpnhlmgmnkaaDoor.Podd
open Go.RowKit Go.Proofs.YtcdcpnhlmgmnkaaDoor.Base Go.Proofs.YtcdcpnhlmgmnkaaDoorW.PrintWords Go.Proofs.YtcdcpnhlmgmnkaaDoorW.PrintLast Go.Proofs.YtcdcpnhlmgmnkaaDoorW.PrintMore
attribute [local go_sem] max2_int min2_int max_two min_two max_three min_three max_four min_four   -- for this text's walks alone
set_option linter.unusedVariables false
set_option linter.unusedSimpArgs false



def errW : Option Int → Value
  | none => .nilIface
  | some c => .iface 0 (.int .i64 c)
theorem errW_none : errW none = .nilIface := rfl
theorem errW_some (c : Int) : errW (some c) = .iface 0 (.int .i64 c) := rfl

theorem info3 : (Tryd.prog.info? 3).map (fun i => (i.zero, i.size, i.bytes)) = some (some (.int .i64 0), 1, 8) := by kernel_rfl
-- the values' own types

end Go.Proofs.YtcdcpnhlmgmnkaaDoor.Podd
