/- The two functions of sameness, as the printed texts take them. -/
import Derived.Test.YtaebjcldopoccaaDoorElGiven
import Derived.Test.YtaebjcldopoccaaDoorEsSameC
set_option linter.unusedVariables false
namespace Go.Proofs.YtaebjcldopoccaaDoor.El
open Go.RowKit Go.Proofs.YtaebjcldopoccaaDoorW.PrintWords Go.Proofs.YtaebjcldopoccaaDoor.Es Go.Proofs.YtaebjcldopoccaaDoor.EsIter Go.Proofs.YtaebjcldopoccaaDoor.EsLaw Go.Proofs.YtaebjcldopoccaaDoor.EsText Go.Proofs.YtaebjcldopoccaaDoor.EsTextC Go.Proofs.YtaebjcldopoccaaDoor.EsRefT Go.Proofs.YtaebjcldopoccaaDoor.EsLawS Go.Proofs.YtaebjcldopoccaaDoor.EsSame
def expr_Same.f (a0_0 : Int) (a0_1 : Int) (a0_2 : Int) (a0_3 : ByteArray) (l0_4 : List S35) (a1_0 : Int) (a1_1 : Int) (a1_2 : Int) (a1_3 : ByteArray) (l1_4 : List S35) : Option Bool := some (sameS ⟨a0_0, ⟨a0_1, a0_2, a0_3⟩, l0_4⟩ ⟨a1_0, ⟨a1_1, a1_2, a1_3⟩, l1_4⟩)
theorem expr_Same.calls (a0_0 : Int) (a0_1 : Int) (a0_2 : Int) (a0_3 : ByteArray) (A0_4 : Option Addr) (c0_4 : Nat) (l0_4 : List S35) (a1_0 : Int) (a1_1 : Int) (a1_2 : Int) (a1_3 : ByteArray) (A1_4 : Option Addr) (c1_4 : Nat) (l1_4 : List S35) (r : Bool) (w : World) (hr0_4 : Kd.C k35 w A0_4 l0_4.length l0_4) (hc0_4 : l0_4.length ≤ c0_4) (hr1_4 : Kd.C k35 w A1_4 l1_4.length l1_4) (hc1_4 : l1_4.length ≤ c1_4) (h : expr_Same.f a0_0 a0_1 a0_2 a0_3 l0_4 a1_0 a1_1 a1_2 a1_3 l1_4 = some r) (hin0 : In (⟨a0_0, ⟨a0_1, a0_2, a0_3⟩, l0_4⟩ : S35) A0_4 c0_4 w) (hin1 : In (⟨a1_0, ⟨a1_1, a1_2, a1_3⟩, l1_4⟩ : S35) A1_4 c1_4 w) :
    Calls Tryd.prog 18 #[.agg #[.int .i64 a0_0, .int .u8 a0_1, .int .i64 a0_2, .string a0_3, .slice A0_4 l0_4.length c0_4], .agg #[.int .i64 a1_0, .int .u8 a1_1, .int .i64 a1_2, .string a1_3, .slice A1_4 l1_4.length c1_4]] w fun e w' => e = .returned (.bool r) ∧ Below w.heap.size w w' := by
  obtain rfl := Option.some.inj h
  exact same_calls ⟨a0_0, ⟨a0_1, a0_2, a0_3⟩, l0_4⟩ ⟨a1_0, ⟨a1_1, a1_2, a1_3⟩, l1_4⟩ A0_4 A1_4 c0_4 c1_4 w hr0_4 hr1_4 hc0_4 hc1_4
def gristmillref09_Same.f (a0_0 : Int) (a0_1 : Int) (a0_2 : Int) (a0_3 : ByteArray) (l0_4 : List S35) (a1_0 : Int) (a1_1 : Int) (a1_2 : Int) (a1_3 : ByteArray) (l1_4 : List S35) : Option Bool := some (sameS ⟨a0_0, ⟨a0_1, a0_2, a0_3⟩, l0_4⟩ ⟨a1_0, ⟨a1_1, a1_2, a1_3⟩, l1_4⟩)
theorem gristmillref09_Same.calls (a0_0 : Int) (a0_1 : Int) (a0_2 : Int) (a0_3 : ByteArray) (A0_4 : Option Addr) (c0_4 : Nat) (l0_4 : List S35) (a1_0 : Int) (a1_1 : Int) (a1_2 : Int) (a1_3 : ByteArray) (A1_4 : Option Addr) (c1_4 : Nat) (l1_4 : List S35) (r : Bool) (w : World) (hr0_4 : Kd.C k35 w A0_4 l0_4.length l0_4) (hc0_4 : l0_4.length ≤ c0_4) (hr1_4 : Kd.C k35 w A1_4 l1_4.length l1_4) (hc1_4 : l1_4.length ≤ c1_4) (h : gristmillref09_Same.f a0_0 a0_1 a0_2 a0_3 l0_4 a1_0 a1_1 a1_2 a1_3 l1_4 = some r) (hin0 : In (⟨a0_0, ⟨a0_1, a0_2, a0_3⟩, l0_4⟩ : S35) A0_4 c0_4 w) (hin1 : In (⟨a1_0, ⟨a1_1, a1_2, a1_3⟩, l1_4⟩ : S35) A1_4 c1_4 w) :
    Calls Tryd.prog 15 #[.agg #[.int .i64 a0_0, .int .u8 a0_1, .int .i64 a0_2, .string a0_3, .slice A0_4 l0_4.length c0_4], .agg #[.int .i64 a1_0, .int .u8 a1_1, .int .i64 a1_2, .string a1_3, .slice A1_4 l1_4.length c1_4]] w fun e w' => e = .returned (.bool r) ∧ Below w.heap.size w w' := by
  obtain rfl := Option.some.inj h
  obtain ⟨k, e⟩ := (same09_ev ⟨a0_0, ⟨a0_1, a0_2, a0_3⟩, l0_4⟩ hin0.fit ⟨a1_0, ⟨a1_1, a1_2, a1_3⟩, l1_4⟩ hin1.fit).rounds
  exact Es.gristmillref09_Same.calls k a0_0 a0_1 a0_2 a0_3 A0_4 c0_4 l0_4 a1_0 a1_1 a1_2 a1_3 A1_4 c1_4 l1_4 _ w hr0_4 hc0_4 hr1_4 hc1_4 e
end Go.Proofs.YtaebjcldopoccaaDoor.El
