/- expr.Quote and the laws' example, as the printed texts take them. -/
import Derived.Test.YtaebjcldopoccaaDoorEnLive
namespace Go.Proofs.YtaebjcldopoccaaDoor.En
open Go.RowKit Go.Proofs.YtaebjcldopoccaaDoorW.PrintWords
def expr_Quote.f (a0 : ByteArray) : Option ByteArray := if a0.size ≤ 100000 then some ⟨(quoteS a0).toArray⟩ else none
theorem expr_Quote.calls (a0 : ByteArray) (r : ByteArray) (w : World) (h : expr_Quote.f a0 = some r) :
    Calls Tryd.prog 12 #[.string a0] w fun e w' => e = .returned (.string r) ∧ Below w.heap.size w w' := by
  unfold expr_Quote.f at h
  split at h
  · rename_i hs
    obtain rfl := Option.some.inj h
    exact quote_calls a0 hs w
  · cases h
def gristmilllaw09_live.f : Option Bool := some true
theorem gristmilllaw09_live.calls (r : Bool) (w : World) (h : gristmilllaw09_live.f = some r) :
    Calls Tryd.prog 6 #[] w fun e w' => e = .returned (.bool r) ∧ Below w.heap.size w w' := by
  obtain rfl := Option.some.inj h
  exact live_calls w
end Go.Proofs.YtaebjcldopoccaaDoor.En
