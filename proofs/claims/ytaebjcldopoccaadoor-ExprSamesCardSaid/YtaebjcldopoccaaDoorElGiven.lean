/- The functions that the laws call, as the printed texts take them. -/
import Derived.Test.YtaebjcldopoccaaDoorEsLawS
set_option linter.unusedVariables false
set_option linter.unusedSimpArgs false
namespace Go.Proofs.YtaebjcldopoccaaDoor.El
open Go.RowKit Go.Proofs.YtaebjcldopoccaaDoorW.PrintWords Go.Proofs.YtaebjcldopoccaaDoorW.PrintLast Go.Proofs.YtaebjcldopoccaaDoorW.PrintMore Go.Proofs.YtaebjcldopoccaaDoor.Es Go.Proofs.YtaebjcldopoccaaDoor.EsIter Go.Proofs.YtaebjcldopoccaaDoor.EsLaw Go.Proofs.YtaebjcldopoccaaDoor.EsText Go.Proofs.YtaebjcldopoccaaDoor.EsTextC Go.Proofs.YtaebjcldopoccaaDoor.EsRefT Go.Proofs.YtaebjcldopoccaaDoor.EsLawS
def gristmillref09_Big.f (a0_0 : Int) (a0_1 : Int) (a0_2 : Int) (a0_3 : ByteArray) (l0_4 : List S35) : Option Bool := some (bigS (⟨a0_0, ⟨a0_1, a0_2, a0_3⟩, l0_4⟩ : S35))
theorem gristmillref09_Big.calls (a0_0 : Int) (a0_1 : Int) (a0_2 : Int) (a0_3 : ByteArray) (A0_4 : Option Addr) (c0_4 : Nat) (l0_4 : List S35) (r : Bool) (w : World) (hr0_4 : Kd.C k35 w A0_4 l0_4.length l0_4) (hc0_4 : l0_4.length ≤ c0_4) (h : gristmillref09_Big.f a0_0 a0_1 a0_2 a0_3 l0_4 = some r) (hin : In (⟨a0_0, ⟨a0_1, a0_2, a0_3⟩, l0_4⟩ : S35) A0_4 c0_4 w) :
    Calls Tryd.prog 14 #[.agg #[.int .i64 a0_0, .int .u8 a0_1, .int .i64 a0_2, .string a0_3, .slice A0_4 l0_4.length c0_4]] w fun e w' => e = .returned (.bool r) ∧ Below w.heap.size w w' := by
  obtain rfl := Option.some.inj h
  exact a_big hin
def expr_Size.f (a0_0 : Int) (a0_1 : Int) (a0_2 : Int) (a0_3 : ByteArray) (l0_4 : List S35) : Option Int := if (preS (⟨a0_0, ⟨a0_1, a0_2, a0_3⟩, l0_4⟩ : S35)).length ≤ 3000 then some (((preS (⟨a0_0, ⟨a0_1, a0_2, a0_3⟩, l0_4⟩ : S35)).length : Int)) else none
theorem expr_Size.calls (a0_0 : Int) (a0_1 : Int) (a0_2 : Int) (a0_3 : ByteArray) (A0_4 : Option Addr) (c0_4 : Nat) (l0_4 : List S35) (r : Int) (w : World) (hr0_4 : Kd.C k35 w A0_4 l0_4.length l0_4) (hc0_4 : l0_4.length ≤ c0_4) (h : expr_Size.f a0_0 a0_1 a0_2 a0_3 l0_4 = some r) (hin : In (⟨a0_0, ⟨a0_1, a0_2, a0_3⟩, l0_4⟩ : S35) A0_4 c0_4 w) :
    Calls Tryd.prog 19 #[.agg #[.int .i64 a0_0, .int .u8 a0_1, .int .i64 a0_2, .string a0_3, .slice A0_4 l0_4.length c0_4]] w fun e w' => e = .returned (.int .i64 r) ∧ Below w.heap.size w w' := by
  unfold expr_Size.f at h
  split at h
  · rename_i hs
    obtain rfl := Option.some.inj h
    exact a_size hin hs
  · cases h
def gristmillref09_Size.f (a0_0 : Int) (a0_1 : Int) (a0_2 : Int) (a0_3 : ByteArray) (l0_4 : List S35) : Option Int := if (preS (⟨a0_0, ⟨a0_1, a0_2, a0_3⟩, l0_4⟩ : S35)).length ≤ 3000 then some (((preS (⟨a0_0, ⟨a0_1, a0_2, a0_3⟩, l0_4⟩ : S35)).length : Int)) else none
theorem gristmillref09_Size.calls (a0_0 : Int) (a0_1 : Int) (a0_2 : Int) (a0_3 : ByteArray) (A0_4 : Option Addr) (c0_4 : Nat) (l0_4 : List S35) (r : Int) (w : World) (hr0_4 : Kd.C k35 w A0_4 l0_4.length l0_4) (hc0_4 : l0_4.length ≤ c0_4) (h : gristmillref09_Size.f a0_0 a0_1 a0_2 a0_3 l0_4 = some r) (hin : In (⟨a0_0, ⟨a0_1, a0_2, a0_3⟩, l0_4⟩ : S35) A0_4 c0_4 w) :
    Calls Tryd.prog 20 #[.agg #[.int .i64 a0_0, .int .u8 a0_1, .int .i64 a0_2, .string a0_3, .slice A0_4 l0_4.length c0_4]] w fun e w' => e = .returned (.int .i64 r) ∧ Below w.heap.size w w' := by
  unfold gristmillref09_Size.f at h
  split at h
  · rename_i hs
    obtain rfl := Option.some.inj h
    exact a_rsize hin hs
  · cases h
def expr_Deep.f (a0_0 : Int) (a0_1 : Int) (a0_2 : Int) (a0_3 : ByteArray) (l0_4 : List S35) : Option Int := if (preS (⟨a0_0, ⟨a0_1, a0_2, a0_3⟩, l0_4⟩ : S35)).length ≤ 3000 then some (deepS (⟨a0_0, ⟨a0_1, a0_2, a0_3⟩, l0_4⟩ : S35)) else none
theorem expr_Deep.calls (a0_0 : Int) (a0_1 : Int) (a0_2 : Int) (a0_3 : ByteArray) (A0_4 : Option Addr) (c0_4 : Nat) (l0_4 : List S35) (r : Int) (w : World) (hr0_4 : Kd.C k35 w A0_4 l0_4.length l0_4) (hc0_4 : l0_4.length ≤ c0_4) (h : expr_Deep.f a0_0 a0_1 a0_2 a0_3 l0_4 = some r) (hin : In (⟨a0_0, ⟨a0_1, a0_2, a0_3⟩, l0_4⟩ : S35) A0_4 c0_4 w) :
    Calls Tryd.prog 21 #[.agg #[.int .i64 a0_0, .int .u8 a0_1, .int .i64 a0_2, .string a0_3, .slice A0_4 l0_4.length c0_4]] w fun e w' => e = .returned (.int .i64 r) ∧ Below w.heap.size w w' := by
  unfold expr_Deep.f at h
  split at h
  · rename_i hs
    obtain rfl := Option.some.inj h
    exact a_deep hin hs
  · cases h
def gristmillref09_Deep.f (a0_0 : Int) (a0_1 : Int) (a0_2 : Int) (a0_3 : ByteArray) (l0_4 : List S35) : Option Int := if (preS (⟨a0_0, ⟨a0_1, a0_2, a0_3⟩, l0_4⟩ : S35)).length ≤ 3000 then some (deepS (⟨a0_0, ⟨a0_1, a0_2, a0_3⟩, l0_4⟩ : S35)) else none
theorem gristmillref09_Deep.calls (a0_0 : Int) (a0_1 : Int) (a0_2 : Int) (a0_3 : ByteArray) (A0_4 : Option Addr) (c0_4 : Nat) (l0_4 : List S35) (r : Int) (w : World) (hr0_4 : Kd.C k35 w A0_4 l0_4.length l0_4) (hc0_4 : l0_4.length ≤ c0_4) (h : gristmillref09_Deep.f a0_0 a0_1 a0_2 a0_3 l0_4 = some r) (hin : In (⟨a0_0, ⟨a0_1, a0_2, a0_3⟩, l0_4⟩ : S35) A0_4 c0_4 w) :
    Calls Tryd.prog 22 #[.agg #[.int .i64 a0_0, .int .u8 a0_1, .int .i64 a0_2, .string a0_3, .slice A0_4 l0_4.length c0_4]] w fun e w' => e = .returned (.int .i64 r) ∧ Below w.heap.size w w' := by
  unfold gristmillref09_Deep.f at h
  split at h
  · rename_i hs
    obtain rfl := Option.some.inj h
    exact a_rdeep hin hs
  · cases h
def expr_Right.f (a0_0 : Int) (a0_1 : Int) (a0_2 : Int) (a0_3 : ByteArray) (l0_4 : List S35) : Option Int := if (preS (⟨a0_0, ⟨a0_1, a0_2, a0_3⟩, l0_4⟩ : S35)).length ≤ 3000 then some (rv (⟨a0_0, ⟨a0_1, a0_2, a0_3⟩, l0_4⟩ : S35)) else none
theorem expr_Right.calls (a0_0 : Int) (a0_1 : Int) (a0_2 : Int) (a0_3 : ByteArray) (A0_4 : Option Addr) (c0_4 : Nat) (l0_4 : List S35) (r : Int) (w : World) (hr0_4 : Kd.C k35 w A0_4 l0_4.length l0_4) (hc0_4 : l0_4.length ≤ c0_4) (h : expr_Right.f a0_0 a0_1 a0_2 a0_3 l0_4 = some r) (hin : In (⟨a0_0, ⟨a0_1, a0_2, a0_3⟩, l0_4⟩ : S35) A0_4 c0_4 w) :
    Calls Tryd.prog 24 #[.agg #[.int .i64 a0_0, .int .u8 a0_1, .int .i64 a0_2, .string a0_3, .slice A0_4 l0_4.length c0_4]] w fun e w' => e = .returned (.int .i64 r) ∧ Below w.heap.size w w' := by
  unfold expr_Right.f at h
  split at h
  · rename_i hs
    obtain rfl := Option.some.inj h
    exact a_right hin hs
  · cases h
def gristmillref09_Right.f (a0_0 : Int) (a0_1 : Int) (a0_2 : Int) (a0_3 : ByteArray) (l0_4 : List S35) : Option Int := if (preS (⟨a0_0, ⟨a0_1, a0_2, a0_3⟩, l0_4⟩ : S35)).length ≤ 3000 then some (rv (⟨a0_0, ⟨a0_1, a0_2, a0_3⟩, l0_4⟩ : S35)) else none
theorem gristmillref09_Right.calls (a0_0 : Int) (a0_1 : Int) (a0_2 : Int) (a0_3 : ByteArray) (A0_4 : Option Addr) (c0_4 : Nat) (l0_4 : List S35) (r : Int) (w : World) (hr0_4 : Kd.C k35 w A0_4 l0_4.length l0_4) (hc0_4 : l0_4.length ≤ c0_4) (h : gristmillref09_Right.f a0_0 a0_1 a0_2 a0_3 l0_4 = some r) (hin : In (⟨a0_0, ⟨a0_1, a0_2, a0_3⟩, l0_4⟩ : S35) A0_4 c0_4 w) :
    Calls Tryd.prog 16 #[.agg #[.int .i64 a0_0, .int .u8 a0_1, .int .i64 a0_2, .string a0_3, .slice A0_4 l0_4.length c0_4]] w fun e w' => e = .returned (.int .i64 r) ∧ Below w.heap.size w w' := by
  unfold gristmillref09_Right.f at h
  split at h
  · rename_i hs
    obtain rfl := Option.some.inj h
    exact a_rright hin hs
  · cases h
def expr_Text.f (a0_0 : Int) (a0_1 : Int) (a0_2 : Int) (a0_3 : ByteArray) (l0_4 : List S35) : Option ByteArray := if wS (⟨a0_0, ⟨a0_1, a0_2, a0_3⟩, l0_4⟩ : S35) ≤ 3000 then some (bs (textS (⟨a0_0, ⟨a0_1, a0_2, a0_3⟩, l0_4⟩ : S35))) else none
theorem expr_Text.calls (a0_0 : Int) (a0_1 : Int) (a0_2 : Int) (a0_3 : ByteArray) (A0_4 : Option Addr) (c0_4 : Nat) (l0_4 : List S35) (r : ByteArray) (w : World) (hr0_4 : Kd.C k35 w A0_4 l0_4.length l0_4) (hc0_4 : l0_4.length ≤ c0_4) (h : expr_Text.f a0_0 a0_1 a0_2 a0_3 l0_4 = some r) (hin : In (⟨a0_0, ⟨a0_1, a0_2, a0_3⟩, l0_4⟩ : S35) A0_4 c0_4 w) :
    Calls Tryd.prog 17 #[.agg #[.int .i64 a0_0, .int .u8 a0_1, .int .i64 a0_2, .string a0_3, .slice A0_4 l0_4.length c0_4]] w fun e w' => e = .returned (.string r) ∧ Below w.heap.size w w' := by
  unfold expr_Text.f at h
  split at h
  · rename_i hs
    obtain rfl := Option.some.inj h
    exact a_text hin hs
  · cases h
def gristmillref09_Text.f (a0_0 : Int) (a0_1 : Int) (a0_2 : Int) (a0_3 : ByteArray) (l0_4 : List S35) : Option ByteArray := if wS (⟨a0_0, ⟨a0_1, a0_2, a0_3⟩, l0_4⟩ : S35) ≤ 3000 then some (bs (textS (⟨a0_0, ⟨a0_1, a0_2, a0_3⟩, l0_4⟩ : S35))) else none
theorem gristmillref09_Text.calls (a0_0 : Int) (a0_1 : Int) (a0_2 : Int) (a0_3 : ByteArray) (A0_4 : Option Addr) (c0_4 : Nat) (l0_4 : List S35) (r : ByteArray) (w : World) (hr0_4 : Kd.C k35 w A0_4 l0_4.length l0_4) (hc0_4 : l0_4.length ≤ c0_4) (h : gristmillref09_Text.f a0_0 a0_1 a0_2 a0_3 l0_4 = some r) (hin : In (⟨a0_0, ⟨a0_1, a0_2, a0_3⟩, l0_4⟩ : S35) A0_4 c0_4 w) :
    Calls Tryd.prog 25 #[.agg #[.int .i64 a0_0, .int .u8 a0_1, .int .i64 a0_2, .string a0_3, .slice A0_4 l0_4.length c0_4]] w fun e w' => e = .returned (.string r) ∧ Below w.heap.size w w' := by
  unfold gristmillref09_Text.f at h
  split at h
  · rename_i hs
    obtain rfl := Option.some.inj h
    exact a_rtext hin hs
  · cases h
def gristmilllaw09_code.f (a0 : Int) : Option Int := some a0
theorem gristmilllaw09_code.calls (a0 : Int) (r : Int) (w : World) (h : gristmilllaw09_code.f a0 = some r) :
    Calls Tryd.prog 23 #[.int .i64 a0] w fun e w' => e = .returned (.int .i64 r) ∧ Drawn0 w w' := by
  obtain rfl := Option.some.inj h
  go_enter Tryd.func23, Tryd.ntmps23
  go_wp2
  go_ret
  exact ⟨by first | rfl | (simp; done) | (simp [*]; done), by repeat (first | exact Drawn0.refl _ | apply Drawn0.step)⟩
def gristmilllaw09_live.f : Option Bool := some true
theorem gristmilllaw09_live.calls (r : Bool) (w : World) (h : gristmilllaw09_live.f = some r) :
    Calls Tryd.prog 6 #[] w fun e w' => e = .returned (.bool r) ∧ Below w.heap.size w w' := by
  obtain rfl := Option.some.inj h
  exact a_live w
end Go.Proofs.YtaebjcldopoccaaDoor.El
