-- WRITTEN BY given-print.py, trimx.py, shrink.py (wip/tools), programs of this session's, out of the translation
import Derived.Test.YtaebjcldopoccaaDoorProg
import Derived.Below
import Derived.Deep.Draws
import Derived.Deep.AppendLies
import Derived.Maps.AppendAt
import Derived.OwnWalk
import Derived.Laws.BytesArg
import Derived.Laws.MakeOwn
import Derived.Laws.OwnMore
import Derived.Deep.OwnRows
import Derived.Tactics
import Derived.Lib.ConvBytes
import Derived.Laws.Slices
import Derived.WalkKit
import Derived.KernelRfl
import Derived.RowKit3
import Derived.Deep.LoopGhost
import Derived.Deep.QuietTactic
import Derived.BigQuiet
import Derived.WideLaws
import Derived.Deep.DeepCutAuto
import Derived.Deep.CutBlock
import Derived.Deep.RegionHeld3
import Derived.Laws.Rows
import Derived.Lib.AppendStr
import Derived.ArgAppend
import Derived.Laws.IdiomCopy
import Derived.OrdersHeld
import Derived.Laws.BitsLemmas
import Derived.RowKit
import Derived.Test.YtaebjcldopoccaaDoorWWords
import Derived.Test.YtaebjcldopoccaaDoorWLast
import Derived.Test.YtaebjcldopoccaaDoorWTab
import Derived.Test.YtaebjcldopoccaaDoorWFour
import Derived.Test.YtaebjcldopoccaaDoorWQPut
import Derived.Test.YtaebjcldopoccaaDoorWApart
import Derived.Test.YtaebjcldopoccaaDoorWArr
import Derived.Test.YtaebjcldopoccaaDoorWZeros
import Derived.Test.YtaebjcldopoccaaDoorWFoot
import Derived.Test.YtaebjcldopoccaaDoorWKept
import Derived.Test.YtaebjcldopoccaaDoorWShare
import Derived.Test.YtaebjcldopoccaaDoorWN
import Derived.Test.YtaebjcldopoccaaDoorWFootNe
import Derived.Test.YtaebjcldopoccaaDoorWAt
import Derived.Test.YtaebjcldopoccaaDoorWEqStruct
import Derived.Test.YtaebjcldopoccaaDoorWRepsOne
import Derived.Test.YtaebjcldopoccaaDoorWInv
import Derived.Test.YtaebjcldopoccaaDoorWInvWords
import Derived.Test.YtaebjcldopoccaaDoorWGuard
import Derived.Test.YtaebjcldopoccaaDoorWNEv
import Derived.Test.YtaebjcldopoccaaDoorWMore
namespace Go.Proofs.YtaebjcldopoccaaDoor.En
open Go.RowKit Go.Proofs.YtaebjcldopoccaaDoorW.PrintWords Go.Proofs.YtaebjcldopoccaaDoorW.PrintLast Go.Proofs.YtaebjcldopoccaaDoorW.PrintMore
attribute [local go_sem] max2_int min2_int max_two min_two max_three min_three max_four min_four   -- for this text's walks alone
set_option linter.unusedVariables false
set_option linter.unusedSimpArgs false
def errW : Option Int → Value
 | none => .nilIface
 | some c => .iface 0 (.int .i64 c)
theorem errW_none : errW none = .nilIface := rfl
theorem errW_some (c : Int) : errW (some c) = .iface 0 (.int .i64 c) := rfl
theorem info9 : (Tryd.prog.info? 9).map (fun i => (i.zero, i.size, i.bytes)) = some (some (.string ⟨#[]⟩), 1, 16) := by kernel_rfl
end Go.Proofs.YtaebjcldopoccaaDoor.En
