import Derived.Test.YtaebjcldopoccaaDoorEnx2
import Derived.Test.YtaebjcldopoccaaDoorEnPlain
namespace Go.Proofs.YtaebjcldopoccaaDoor.Pure
open Go.RowKit Go.Proofs.YtaebjcldopoccaaDoor.En Go.Proofs.YtaebjcldopoccaaDoorW.PrintWords Go.Proofs.YtaebjcldopoccaaDoorW.PrintLast

/-- The plain law of ExprNames. -/
theorem ExprNames : gristmilllaw09_ExprNames.Pure := fun op s _ _ => (law_ev op s).rounds
end Go.Proofs.YtaebjcldopoccaaDoor.Pure
