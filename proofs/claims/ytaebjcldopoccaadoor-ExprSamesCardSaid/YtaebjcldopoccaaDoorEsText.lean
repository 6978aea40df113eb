/- The text of any expression: what it is. No Go and no memory here. -/
import Derived.Test.YtaebjcldopoccaaDoorEsRight
import Derived.Test.YtaebjcldopoccaaDoorEnQuote
set_option linter.unusedVariables false
namespace Go.Proofs.YtaebjcldopoccaaDoor.EsText
open Go.RowKit Go.Proofs.YtaebjcldopoccaaDoorW.PrintWords Go.Proofs.YtaebjcldopoccaaDoor.Es

/-- An op's name as bytes. -/
def nameS (op : Int) : List UInt8 := match expr_Name.f op with
  | some s => s.data.toList
  | none => []
mutual
/-- The text of an expression, as bytes. -/
def textS : S35 → List UInt8
  | ⟨o, v, l⟩ => if o = 0 then (if v.f0 = 0 then Lib.itoa v.f1 else En.quoteS v.f2) else if l.length = 0 then nameS o else 40 :: (nameS o ++ (textsS l ++ [41]))
/-- The arguments' texts, each behind a blank. -/
def textsS : List S35 → List UInt8
  | [] => []
  | a :: t => 32 :: (textS a ++ textsS t)
end
/-- Joined with blanks, the name ahead: the same. -/
theorem join_texts (h : List UInt8) : ∀ l : List S35, Lib.join (h :: l.map textS) [32] = h ++ textsS l := by
  intro l
  rw [Lib.join_cons]
  have : ∀ l : List S35, Lib.joinTail [32] (l.map textS) = textsS l := by
    intro l
    induction l with
    | nil => rfl
    | cons a t ih =>
      unfold Lib.joinTail at ih ⊢
      simp only [List.map_cons, List.flatten_cons, textsS, ih]
      simp
  rw [this]
end Go.Proofs.YtaebjcldopoccaaDoor.EsText
