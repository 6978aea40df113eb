/- ExprShapes answers true: in plain Lean, by the two sides' equal answers. -/
import Derived.Test.YtaebjcldopoccaaDoorElShapes
namespace Go.Proofs.YtaebjcldopoccaaDoor.El
open Go.RowKit Go.Proofs.YtaebjcldopoccaaDoorW.PrintWords Go.Proofs.YtaebjcldopoccaaDoor.Es Go.Proofs.YtaebjcldopoccaaDoor.EsIter Go.Proofs.YtaebjcldopoccaaDoor.EsLaw Go.Proofs.YtaebjcldopoccaaDoor.EsText Go.Proofs.YtaebjcldopoccaaDoor.EsTextC Go.Proofs.YtaebjcldopoccaaDoor.EsRefT Go.Proofs.YtaebjcldopoccaaDoor.EsLawS
theorem exprShapes_true (o : Int) (v : S32) (l : List S35) : gristmilllaw09_ExprShapes.f o v.f0 v.f1 v.f2 l = some true := by
  unfold gristmilllaw09_ExprShapes.f
  have e0 : gristmillref09_Big.f o v.f0 v.f1 v.f2 l = some (bigS ⟨o, v, l⟩) := rfl
  rw [e0, Option.bind_some]
  by_cases hb : bigS ⟨o, v, l⟩ = true
  · rw [if_pos hb]
    rfl
  · rw [if_neg hb]
    rw [Bool.not_eq_true] at hb
    have h1 := small_of hb
    have h2 := small_w hb
    have e1 : expr_Size.f o v.f0 v.f1 v.f2 l = some ((preS ⟨o, v, l⟩).length : Int) := if_pos h1
    have e2 : gristmillref09_Size.f o v.f0 v.f1 v.f2 l = some ((preS ⟨o, v, l⟩).length : Int) := if_pos h1
    have e3 : expr_Deep.f o v.f0 v.f1 v.f2 l = some (deepS ⟨o, v, l⟩) := if_pos h1
    have e4 : gristmillref09_Deep.f o v.f0 v.f1 v.f2 l = some (deepS ⟨o, v, l⟩) := if_pos h1
    have e5 : expr_Right.f o v.f0 v.f1 v.f2 l = some (rv ⟨o, v, l⟩) := if_pos h1
    have e6 : gristmillref09_Right.f o v.f0 v.f1 v.f2 l = some (rv ⟨o, v, l⟩) := if_pos h1
    have e7 : expr_Text.f o v.f0 v.f1 v.f2 l = some (bs (textS ⟨o, v, l⟩)) := if_pos h2
    have e8 : gristmillref09_Text.f o v.f0 v.f1 v.f2 l = some (bs (textS ⟨o, v, l⟩)) := if_pos h2
    rw [e1, e2, e3, e4, e5, e6, e7, e8]
    simp only [Option.bind_some, if_true, gristmilllaw09_code.f, gristmilllaw09_live.f]
end Go.Proofs.YtaebjcldopoccaaDoor.El
