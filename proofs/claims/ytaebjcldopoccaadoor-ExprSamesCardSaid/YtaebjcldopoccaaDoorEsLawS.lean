/- What the functions that the laws call answer at an expression that came in. -/
import Derived.Test.YtaebjcldopoccaaDoorEsRefT
set_option linter.unusedVariables false
set_option linter.unusedSimpArgs false
namespace Go.Proofs.YtaebjcldopoccaaDoor.EsLawS
open Go.RowKit Go.Shelf Go.Proofs.YtaebjcldopoccaaDoorW.PrintWords Go.Proofs.YtaebjcldopoccaaDoorW.PrintLast Go.Proofs.YtaebjcldopoccaaDoorW.PrintMore Go.Proofs.YtaebjcldopoccaaDoor.Es Go.Proofs.YtaebjcldopoccaaDoor.EsIter Go.Proofs.YtaebjcldopoccaaDoor.EsLaw Go.Proofs.YtaebjcldopoccaaDoor.EsText Go.Proofs.YtaebjcldopoccaaDoor.EsTextC Go.Proofs.YtaebjcldopoccaaDoor.EsRefT

/-- What came in, and stays so. -/
structure In (x : S35) (A : Option Addr) (c : Nat) (w : World) : Prop where
  C : Kd.C k35 w A x.f2.length x.f2
  len : x.f2.length ≤ c
  fit : Fit35 x
  tab : Tab w
theorem In.on {x : S35} {A : Option Addr} {c : Nat} {w w' : World} (h : In x A c w) (hb : Below w.heap.size w w') : In x A c w' := ⟨Kd.C_below h.C hb, h.len, h.fit, tab_on h.tab hb⟩
abbrev av (x : S35) (A : Option Addr) (c : Nat) : Array Value := #[.agg #[.int .i64 x.f0, .int .u8 x.f1.f0, .int .i64 x.f1.f1, .string x.f1.f2, .slice A x.f2.length c]]
abbrev Ans (f : FuncId) (args : Array Value) (w : World) (r : Value) : Prop := Calls Tryd.prog f args w fun e w' => e = .returned r ∧ Below w.heap.size w w'
theorem drawn_below {w w' : World} (h : Drawn0 w w') : Below w.heap.size w w' := by obtain ⟨q, rfl⟩ := h.out; exact pw_below_drewN (Below.refl _ _) q
section
variable {x : S35} {A : Option Addr} {c : Nat} {w : World} (h : In x A c w)
include h
theorem a_big : Ans 14 (av x A c) w (.bool (bigS x)) := by
  obtain ⟨k, e⟩ := (big_ev x h.fit).rounds
  exact (gristmillref09_Big.calls k x.f0 x.f1.f0 x.f1.f1 x.f1.f2 A c x.f2 _ w h.C h.len e)
theorem a_size (hs : (preS x).length ≤ 3000) : Ans 19 (av x A c) w (.int .i64 ((preS x).length : Nat)) := Size_calls ⟨x, A, c⟩ w h.C (by show (preS x).length < _; omega)
theorem a_rsize (hs : (preS x).length ≤ 3000) : Ans 20 (av x A c) w (.int .i64 ((preS x).length : Nat)) := by
  obtain ⟨k, e⟩ := (size_ref x (by omega)).rounds
  exact gristmillref09_Size.calls k x.f0 x.f1.f0 x.f1.f1 x.f1.f2 A c x.f2 _ w h.C h.len e
theorem a_deep (hs : (preS x).length ≤ 3000) : Ans 21 (av x A c) w (.int .i64 (deepS x)) := by
  obtain ⟨k, e⟩ := (deep_ev x (by omega)).1.rounds
  exact expr_Deep.calls k x.f0 x.f1.f0 x.f1.f1 x.f1.f2 A c x.f2 _ w h.C h.len e
theorem a_rdeep (hs : (preS x).length ≤ 3000) : Ans 22 (av x A c) w (.int .i64 (deepS x)) := by
  obtain ⟨k, e⟩ := (deep_ref x (by omega)).rounds
  exact gristmillref09_Deep.calls k x.f0 x.f1.f0 x.f1.f1 x.f1.f2 A c x.f2 _ w h.C h.len e
theorem a_right (hs : (preS x).length ≤ 3000) : Ans 24 (av x A c) w (.int .i64 (rv x)) := rv_calls ⟨x, A, c⟩ (by show (preS x).length < _; omega) w h.C h.len
theorem a_rright (hs : (preS x).length ≤ 3000) : Ans 16 (av x A c) w (.int .i64 (rv x)) := by
  obtain ⟨k, e⟩ := (right_ref x (by omega)).rounds
  exact gristmillref09_Right.calls k x.f0 x.f1.f0 x.f1.f1 x.f1.f2 A c x.f2 _ w h.C h.len e
theorem a_text (hs : wS x ≤ 3000) : Ans 17 (av x A c) w (.string (bs (textS x))) := text_calls x h.fit hs A c w h.C h.len h.tab
theorem a_rtext (hs : wS x ≤ 3000) : Ans 25 (av x A c) w (.string (bs (textS x))) := rtext_calls x h.fit hs A c w h.C h.len
end
theorem a_code (i : Int) (w : World) : Ans 23 #[.int .i64 i] w (.int .i64 i) := by
  have HB := Aside0.mk (Below.refl w.heap.size w)
  go_enter Tryd.func23, Tryd.ntmps23
  go_wp2
  go_ret
  exact ⟨rfl, HB.out⟩
theorem a_live (w : World) : Ans 6 #[] w (.bool true) := En.live_calls w
end Go.Proofs.YtaebjcldopoccaaDoor.EsLawS
