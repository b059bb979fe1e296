-- laid by hp.py (a program of this work over the kit's print), with contracts by hand for what the print does not take
import Derived.Test.YtpmogeekhkcfjaaProg
import Derived.Deep.RegionWith
import Derived.Below
import Derived.Deep.Draws
import Derived.Deep.AppendLies
import Derived.Maps.AppendAt
import Derived.OwnWalk
import Derived.Laws.BytesArg
import Derived.Laws.MakeOwn
import Derived.Laws.OwnMore
import Derived.Deep.OwnRows
import Derived.Tactics
import Derived.Lib.ConvBytes
import Derived.Laws.Slices
import Derived.WalkKit
import Derived.KernelRfl
import Derived.RowKit3
import Derived.Deep.LoopGhost
import Derived.Deep.QuietTactic
import Derived.BigQuiet
import Derived.WideLaws
import Derived.Deep.DeepCutAuto
import Derived.Deep.CutBlock
import Derived.Deep.RegionHeld3
import Derived.Laws.Rows
import Derived.Lib.AppendStr
import Derived.ArgAppend
import Derived.Laws.IdiomCopy
import Derived.OrdersHeld
import Derived.Laws.BitsLemmas
import Derived.RowKit
import Derived.Test.YtpmogeekhkcfjaaWWords
import Derived.Test.YtpmogeekhkcfjaaWLast
import Derived.Test.YtpmogeekhkcfjaaWTab
import Derived.Test.YtpmogeekhkcfjaaWFour
import Derived.Test.YtpmogeekhkcfjaaWQPut
import Derived.Test.YtpmogeekhkcfjaaWApart
import Derived.Test.YtpmogeekhkcfjaaWArr
import Derived.Test.YtpmogeekhkcfjaaWZeros
import Derived.Test.YtpmogeekhkcfjaaWFoot
import Derived.Test.YtpmogeekhkcfjaaWKept
import Derived.Test.YtpmogeekhkcfjaaWShare
import Derived.Test.YtpmogeekhkcfjaaWN
import Derived.Test.YtpmogeekhkcfjaaWFootNe
import Derived.Test.YtpmogeekhkcfjaaWAt
import Derived.Test.YtpmogeekhkcfjaaWEqStruct
import Derived.Test.YtpmogeekhkcfjaaWRepsOne
import Derived.Test.YtpmogeekhkcfjaaWInv
import Derived.Test.YtpmogeekhkcfjaaWInvWords
import Derived.Test.YtpmogeekhkcfjaaWGuard
import Derived.Test.YtpmogeekhkcfjaaWNEv
import Derived.Test.YtpmogeekhkcfjaaWMore
namespace Go.Proofs.Ytpmogeekhkcfjaa.Print
open Go.RowKit Go.Proofs.YtpmogeekhkcfjaaW.PrintWords Go.Proofs.YtpmogeekhkcfjaaW.PrintLast Go.Proofs.YtpmogeekhkcfjaaW.PrintMore
attribute [local go_sem] max2_int min2_int max_two min_two max_three min_three max_four min_four   -- for this text's walks alone
set_option linter.unusedVariables false
set_option linter.unusedSimpArgs false



def errW : Option Int → Value
  | none => .nilIface
  | some c => .iface 0 (.int .i64 c)
theorem errW_none : errW none = .nilIface := rfl
theorem errW_some (c : Int) : errW (some c) = .iface 0 (.int .i64 c) := rfl

theorem info3 : (Try.prog.info? 3).map (fun i => (i.zero, i.size, i.bytes)) = some (some (.int .i64 0), 1, 8) := by kernel_rfl
theorem info5 : (Try.prog.info? 5).map (fun i => (i.zero, i.size, i.bytes)) = some (some (.int .u8 0), 1, 1) := by kernel_rfl
-- the values' own types

end Go.Proofs.Ytpmogeekhkcfjaa.Print
