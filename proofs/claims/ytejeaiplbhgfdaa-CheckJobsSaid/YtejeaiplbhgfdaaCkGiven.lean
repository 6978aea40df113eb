/- job.Right as a Lean function, and its contract in the form of the printed ones. -/
import Derived.Test.YtejeaiplbhgfdaaCkJobR
namespace Go.Proofs.Ytejeaiplbhgfdaa.Ck
open Go.RowKit Go.Proofs.YtejeaiplbhgfdaaW.PrintWords Go.Proofs.YtejeaiplbhgfdaaW.PrintLast Go.Proofs.YtejeaiplbhgfdaaW.PrintMore Go.Proofs.Ytejeaiplbhgfdaa.CkIter
set_option linter.unusedVariables false
def smallB (x : S26) : Bool := decide ((preS x).length < 9223372036854775807)
def jobRightS (wd : Bool) (ea pa : Int) (fn : ByteArray) (em : List S47) (fin : S26) : Int :=
  if wd = false then 3 else if ea < -1 then 8 else if 255 < ea then 8 else if pa < 1 then 8 else if 8 < pa then 8 else if fn.toList.isEmpty = true then 8 else if (em.length : Int) < 1 then 9 else if (8 : Int) < (em.length : Int) then 9 else firstErr (threes em ++ [fin])
def job_Right.f (k : Nat) (a0_0 : ByteArray) (a0_1 : Int) (l0_2 : List (S47)) (a0_3 : Int) (a0_4 : Int) (a0_5 : Int) (a0_6 : Int) (a0_7 : ByteArray) (l0_8 : List (S26)) (a0_9 : Bool) (a0_10 : Int) : Option Int :=
  (job_word.f k a0_0).bind fun wd => (job_Fold.f a0_3).bind fun fn => if (threes l0_2 ++ [(⟨a0_4, ⟨a0_5, a0_6, a0_7⟩, l0_8⟩ : S26)]).all smallB = true then some (jobRightS wd a0_1 a0_10 fn l0_2 ⟨a0_4, ⟨a0_5, a0_6, a0_7⟩, l0_8⟩) else none
theorem job_Right.mono : ∀ a0 a1 a2 a3 a4 a5 a6 a7 a8 a9 a10 k, LeO (job_Right.f k a0 a1 a2 a3 a4 a5 a6 a7 a8 a9 a10) (job_Right.f (k + 1) a0 a1 a2 a3 a4 a5 a6 a7 a8 a9 a10) := by
  intro a0 a1 a2 a3 a4 a5 a6 a7 a8 a9 a10 k
  unfold job_Right.f
  exact LeO.bind (job_word.mono a0 k) (fun _ => LeO.refl _)
theorem jobRight_all (nm : ByteArray) (ea : Int) (A2 : Option Addr) (c2 : Nat) (em : List S47) (fo : Int) (fin : S26) (A8 : Option Addr) (c8 : Nat) (co : Bool) (pa : Int) (w : World) (kw : Nat) (wd : Bool) (hwd : job_word.f kw nm = some wd) (fn : ByteArray) (hfn : job_Fold.f fo = some fn)
    (hC2 : Kd.C k47 w A2 em.length em) (hC8 : Kd.C k26 w A8 fin.f2.length fin.f2) (hc8 : fin.f2.length ≤ c8) (hsm : ∀ x, x ∈ threes em ++ [fin] → (preS x).length < 9223372036854775807) :
    Calls Try.prog 23 #[.agg #[.string nm, .int .i64 ea, .slice A2 em.length c2, .int .i64 fo, .int .i64 fin.f0, .int .u8 fin.f1.f0, .int .i64 fin.f1.f1, .string fin.f1.f2, .slice A8 fin.f2.length c8, .bool co, .int .i64 pa]] w fun e w' => e = .returned (.int .i64 (jobRightS wd ea pa fn em fin)) ∧ Below w.heap.size w w' := by
  cases wd with
  | false => exact jr_word nm ea A2 c2 em fo fin A8 c8 co pa w kw false hwd fn hfn rfl
  | true =>
    by_cases g2 : ea < -1
    · have hr : jobRightS true ea pa fn em fin = 8 := by unfold jobRightS; rw [if_neg (show ¬ (true = false) by decide), if_pos g2]
      rw [hr]
      exact jr_each0 nm ea A2 c2 em fo fin A8 c8 co pa w kw true hwd fn hfn rfl (decide_eq_true g2)
    by_cases g3 : 255 < ea
    · have hr : jobRightS true ea pa fn em fin = 8 := by unfold jobRightS; rw [if_neg (show ¬ (true = false) by decide), if_neg g2, if_pos g3]
      rw [hr]
      exact jr_each1 nm ea A2 c2 em fo fin A8 c8 co pa w kw true hwd fn hfn rfl (decide_eq_false g2) (decide_eq_true g3)
    by_cases g4 : pa < 1
    · have hr : jobRightS true ea pa fn em fin = 8 := by unfold jobRightS; rw [if_neg (show ¬ (true = false) by decide), if_neg g2, if_neg g3, if_pos g4]
      rw [hr]
      exact jr_parts0 nm ea A2 c2 em fo fin A8 c8 co pa w kw true hwd fn hfn rfl (decide_eq_false g2) (decide_eq_false g3) (decide_eq_true g4)
    by_cases g5 : 8 < pa
    · have hr : jobRightS true ea pa fn em fin = 8 := by unfold jobRightS; rw [if_neg (show ¬ (true = false) by decide), if_neg g2, if_neg g3, if_neg g4, if_pos g5]
      rw [hr]
      exact jr_parts1 nm ea A2 c2 em fo fin A8 c8 co pa w kw true hwd fn hfn rfl (decide_eq_false g2) (decide_eq_false g3) (decide_eq_false g4) (decide_eq_true g5)
    by_cases g6 : fn.toList.isEmpty = true
    · have hr : jobRightS true ea pa fn em fin = 8 := by unfold jobRightS; rw [if_neg (show ¬ (true = false) by decide), if_neg g2, if_neg g3, if_neg g4, if_neg g5, if_pos g6]
      rw [hr]
      exact jr_fold nm ea A2 c2 em fo fin A8 c8 co pa w kw true hwd fn hfn rfl (decide_eq_false g2) (decide_eq_false g3) (decide_eq_false g4) (decide_eq_false g5) g6
    by_cases g7 : (em.length : Int) < 1
    · have hr : jobRightS true ea pa fn em fin = 9 := by unfold jobRightS; rw [if_neg (show ¬ (true = false) by decide), if_neg g2, if_neg g3, if_neg g4, if_neg g5, if_neg g6, if_pos g7]
      rw [hr]
      exact jr_none nm ea A2 c2 em fo fin A8 c8 co pa w kw true hwd fn hfn rfl (decide_eq_false g2) (decide_eq_false g3) (decide_eq_false g4) (decide_eq_false g5) (by simpa using g6) (decide_eq_true g7)
    by_cases g8 : (8 : Int) < (em.length : Int)
    · have hr : jobRightS true ea pa fn em fin = 9 := by unfold jobRightS; rw [if_neg (show ¬ (true = false) by decide), if_neg g2, if_neg g3, if_neg g4, if_neg g5, if_neg g6, if_neg g7, if_pos g8]
      rw [hr]
      exact jr_many nm ea A2 c2 em fo fin A8 c8 co pa w kw true hwd fn hfn rfl (decide_eq_false g2) (decide_eq_false g3) (decide_eq_false g4) (decide_eq_false g5) (by simpa using g6) (decide_eq_false g7) (decide_eq_true g8)
    have hr : jobRightS true ea pa fn em fin = firstErr (threes em ++ [fin]) := by unfold jobRightS; rw [if_neg (show ¬ (true = false) by decide), if_neg g2, if_neg g3, if_neg g4, if_neg g5, if_neg g6, if_neg g7, if_neg g8]
    rw [hr]
    exact jr_loop nm ea A2 c2 em fo fin A8 c8 co pa w kw true hwd fn hfn rfl (decide_eq_false g2) (decide_eq_false g3) (decide_eq_false g4) (decide_eq_false g5) (by simpa using g6) (decide_eq_false g7) (decide_eq_false g8) hC2 hC8 hc8 hsm
theorem job_Right.calls (k : Nat) (a0_0 : ByteArray) (a0_1 : Int) (A0_2 : Option Addr) (c0_2 : Nat) (l0_2 : List (S47)) (a0_3 : Int) (a0_4 : Int) (a0_5 : Int) (a0_6 : Int) (a0_7 : ByteArray) (A0_8 : Option Addr) (c0_8 : Nat) (l0_8 : List (S26)) (a0_9 : Bool) (a0_10 : Int) (r : Int) (w : World) (hr0_2 : Kd.C k47 w A0_2 l0_2.length l0_2) (hc0_2 : l0_2.length ≤ c0_2) (hr0_8 : Kd.C k26 w A0_8 l0_8.length l0_8) (hc0_8 : l0_8.length ≤ c0_8) (h : job_Right.f k a0_0 a0_1 l0_2 a0_3 a0_4 a0_5 a0_6 a0_7 l0_8 a0_9 a0_10 = some r) :
    Calls Try.prog 23 #[.agg #[.string a0_0, .int .i64 a0_1, .slice A0_2 l0_2.length c0_2, .int .i64 a0_3, .int .i64 a0_4, .int .u8 a0_5, .int .i64 a0_6, .string a0_7, .slice A0_8 l0_8.length c0_8, .bool a0_9, .int .i64 a0_10]] w fun e w' => e = .returned (.int .i64 r) ∧ Below w.heap.size w w' := by
  unfold job_Right.f at h
  obtain ⟨wd, hwd, h⟩ := Option.bind_eq_some_iff.1 h
  obtain ⟨fn, hfn, h⟩ := Option.bind_eq_some_iff.1 h
  by_cases hs : (threes l0_2 ++ [(⟨a0_4, ⟨a0_5, a0_6, a0_7⟩, l0_8⟩ : S26)]).all smallB = true
  · rw [if_pos hs] at h
    obtain rfl := Option.some.inj h
    rw [List.all_eq_true] at hs
    exact jobRight_all a0_0 a0_1 A0_2 c0_2 l0_2 a0_3 ⟨a0_4, ⟨a0_5, a0_6, a0_7⟩, l0_8⟩ A0_8 c0_8 a0_9 a0_10 w k wd hwd fn hfn hr0_2 hr0_8 hc0_8 (fun x hx => of_decide_eq_true (hs x hx))
  · rw [if_neg hs] at h
    cases h
end Go.Proofs.Ytejeaiplbhgfdaa.Ck
