/- The laws' example, by its walk. -/
import Derived.Test.YtcklemjmenifpaaDoorFnTell
set_option linter.unusedVariables false
set_option linter.unusedSimpArgs false
namespace Go.Proofs.YtcklemjmenifpaaDoor.Fn
open Go.RowKit Go.Shelf Go.Extern.Stop Go.Stop Go.Extern Go.Proofs.YtcklemjmenifpaaDoorW.PrintWords Go.Proofs.YtcklemjmenifpaaDoorW.PrintLast

def inE (s : ByteArray) (no : Int) : Er → Er
  | .nil => .nil
  | e => .slip s no e
theorem inE_some {s : ByteArray} {no : Int} {e : Er} (h : e ≠ .nil) : inE s no e = .slip s no e := by cases e <;> first | rfl | exact absurd rfl h
theorem in_calls (s : ByteArray) (no : Int) (e : Er) (v : Value) (w : World) (hv : EV w e v) : Calls Tryd.prog 12 #[.string s, .int .i64 no, v] w fun ev w' => (∃ u, ev = .returned u ∧ EV w' (inE s no e) u) ∧ Below w.heap.size w w' := by
  by_cases he : e = .nil
  · subst he
    obtain rfl := hv
    exact (in_nil s no w).mono fun ev w' ⟨h, hb⟩ => ⟨⟨_, h, rfl⟩, hb⟩
  · obtain ⟨t, u, rfl⟩ := ev_some hv he
    refine (in_some s no t u w).mono fun ev w' ⟨h, hb⟩ => ⟨⟨_, h, ?_⟩, hb⟩
    rw [inE_some he]
    exact ⟨_, rfl, hv.on hb⟩
theorem new_some (n : Int) (h0 : n ≠ 0) (w : World) : Calls Tryd.prog 14 #[.int .i64 n] w fun e w' => e = .returned (.iface 39 (.int .i64 n)) ∧ w' = w := by
  have e0 : (n == 0) = false := beq_eq_false_iff_ne.2 h0
  go_enter Tryd.func14, Tryd.ntmps14
  go_wp2
  go_ret
  exact ⟨rfl, rfl⟩
def liveE : Er := .slip ⟨#[109, 97, 112]⟩ 3 (.two (.num 2) (.num 9))
theorem itoa_small (n : Nat) (h : n < 10) : Lib.itoa (n : Int) = [UInt8.ofNat (48 + n)] := by
  rw [Lib.itoa_nonneg, Lib.decDigits, dif_pos h]
theorem live_text : bs (tellE liveE) = ⟨#[109, 97, 112, 32, 51, 58, 32, 40, 101, 114, 114, 111, 114, 32, 50, 59, 32, 101, 114, 114, 111, 114, 32, 57, 41]⟩ := by
  have h2 : Lib.itoa 2 = [50] := itoa_small 2 (by decide)
  have h3 : Lib.itoa 3 = [51] := itoa_small 3 (by decide)
  have h9 : Lib.itoa 9 = [57] := itoa_small 9 (by decide)
  simp only [liveE, tellE, h2, h3, h9]
  rfl
set_option maxRecDepth 100000 in
set_option maxHeartbeats 4000000 in
theorem live_calls (w : World) (ht : Tab w) : Calls Tryd.prog 7 #[] w fun ev w' => ev = .returned (.bool true) ∧ Below w.heap.size w w' := by
  have HB := Aside0.mk (Below.refl w.heap.size w)
  have HT := Aside0.mk ht
  clear ht
  go_enter Tryd.func7, Tryd.ntmps7
  go_wp2_with (first
    | (go_at_call 14; refine (new_some _ (by decide) _).mono ?_; rintro ev w' ⟨rfl, rfl⟩)
    | (go_at_call 13; refine (both_calls (.num 2) (.num 9) _ _ _ rfl rfl).mono ?_; rintro ev w1 ⟨⟨v1, rfl, hv1⟩, hb⟩; (have HB1 := Aside0.mk (HB.out.trans hb)); (have HV1 := Aside0.mk hv1); clear hb hv1)
    | (go_at_call 12; refine (in_calls _ _ _ _ _ HV1.out).mono ?_; rintro ev w2 ⟨⟨v2, rfl, hv2⟩, hb⟩; (have HB2 := Aside0.mk (HB1.out.trans (hb.mono HB1.out.size))); (have HV2 := Aside0.mk hv2); clear hb hv2)
    | (go_at_call 19; refine (tell_calls liveE (by simp only [liveE, fitE, i64]; omega) (by have := congrArg ByteArray.size live_text; rw [bs_size] at this; rw [this]; decide) _ _ HV2.out (tab_on HT.out HB2.out)).mono ?_; rintro ev w3 ⟨rfl, hb⟩; rw [live_text]; (have HB3 := Aside0.mk (HB2.out.trans (hb.mono HB2.out.size))); clear hb))
  go_ret
  exact ⟨rfl, HB3.out⟩
end Go.Proofs.YtcklemjmenifpaaDoor.Fn
