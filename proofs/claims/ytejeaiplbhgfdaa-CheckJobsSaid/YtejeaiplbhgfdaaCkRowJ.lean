/- CheckJobs: of every job the program's answer is the document's, without condition. -/
import Derived.Test.YtejeaiplbhgfdaaRows
import Derived.Test.YtejeaiplbhgfdaaCkJobs
import Derived.Test.YtejeaiplbhgfdaaCkArg
import Derived.WalkKit
import Derived.ProofKit
import Derived.OpenShut
import Derived.ShutString
import Derived.ChangeOld
import Derived.Below
import Derived.SizedLaws
namespace Go.Proofs.Ytejeaiplbhgfdaa.checkJobs
open Go.ChangeShapes Go.WideShapes Go.ChangeAt Go.RowKit
open Go.ChangeMaps (open_string shut_string)
open Go.Proofs.YtejeaiplbhgfdaaW.PrintWords Go.Proofs.Ytejeaiplbhgfdaa.Ck Go.Proofs.Ytejeaiplbhgfdaa.CkArg Go.Proofs.Ytejeaiplbhgfdaa.CkFit Go.Proofs.Ytejeaiplbhgfdaa.CkLaw
theorem own : ownKnob Try.prog.godebug = none := by kernel_rfl
theorem laidOut : laidOutB Try.prog = true := by kernel_rfl

theorem walk (x : S38) (A2 : Option Addr) (c2 : Nat) (A8 : Option Addr) (c8 : Nat) (fold : Int) (w : World) (g : Fit38 x) (h2 : k47.C w A2 x.f2.length x.f2) (l2 : x.f2.length ≤ c2) (h8 : k26.C w A8 x.f4.f2.length x.f4.f2) (l8 : x.f4.f2.length ≤ c8) :
    Calls Try.prog 4 #[.agg #[.string x.f0, .int .i64 x.f1, .slice A2 x.f2.length c2, .int .i64 x.f3, .int .i64 x.f4.f0, .int .u8 x.f4.f1.f0, .int .i64 x.f4.f1.f1, .string x.f4.f1.f2, .slice A8 x.f4.f2.length c8, .bool x.f5, .int .i64 x.f6], .int .i64 fold] w fun e w' => e = .returned (.bool true) ∧ Below w.heap.size w w' :=
  cj_calls x.f0 x.f1 A2 c2 x.f2 x.f3 x.f4 A8 c8 x.f5 x.f6 fold w g.name g.emits g.fin h2 l2 h8 l8

set_option maxRecDepth 100000 in
theorem lifted (os : Os) (started : os.Started) (H : Type) (enc : TypeId × Value → H) :
    ReturnsInHanded {} Try.checked os 4 .any (Rows.checkJobsSpec.pre6 enc Try.prog Try.f4 Rows.checkJobsRow.domain false) (Rows.checkJobsSpec.post enc Try.prog Try.f4 false true false false) := by
  refine returnsInHanded_of_change_sized (C := Try.checked) own started (by kernel_rfl) Try.func4
    (ChangeSpec.witness6 (enc := enc) (C := Try.checked) false ⟨#[], #[.agg #[.string ByteArray.empty, .int .i64 0, .slice none 0 0, .int .i64 0, .int .i64 0, .int .u8 0, .int .i64 0, .string ByteArray.empty, .slice none 0 0, .bool false, .int .i64 0], .int .i64 0], []⟩ 8 (by kernel_rfl) (by kernel_rfl) (by kernel_rfl) (by kernel_rfl)) ?_
  intro W base args ds gs before hval0 hW hcnd hsz0 _
  have hval : ∀ (j : Nat) t v, Try.f4.params[j]? = some t → args[j]? = some v → Value.okWide Try.prog W .any base t v := hval0
  have hW' := hW
  obtain ⟨p, q, hA0, hV, rfl, hfz, hnd⟩ := hW
  have hA : DataW.TrodAll enc Try.prog W 0 (fun _ => true) true Try.f4.params.toList args.toList ds p := hA0
  rw [Try.params4] at hA hval
  obtain ⟨v0, vs0, d0, ds0, p0, q0, hargs, rfl, rfl, h0, r0⟩ := trodAll_cons hA
  obtain ⟨v1, vs1, d1, ds1, p1, q1, rfl, rfl, rfl, h1, r1⟩ := trodAll_cons r0
  obtain ⟨rfl, rfl, rfl⟩ := trodAll_nil r1
  obtain rfl : args = #[v0, v1] := by cases args; simp_all
  obtain ⟨rfl, rfl⟩ := trodVars_none hV
  obtain ⟨cs, rfl, _⟩ := okWide_struct Try.underlying38 (hval 0 38 v0 rfl rfl)
  have k0 := h0
  have lt0 : ∀ x ∈ p0, x.block < W.heap.size := by obtain ⟨m, hm⟩ := k0; exact DataW.trod_lt m _ _ _ hm
  obtain ⟨fuel, hf⟩ := h0
  obtain ⟨x, hK, g⟩ := read38 hf
  obtain ⟨A2, c2, A8, c8, hcs, l2, g2, l8, g8⟩ := k38_open hK
  have hcs' : cs = #[.string x.f0, .int .i64 x.f1, .slice A2 x.f2.length c2, .int .i64 x.f3, .int .i64 x.f4.f0, .int .u8 x.f4.f1.f0, .int .i64 x.f4.f1.f1, .string x.f4.f1.f2, .slice A8 x.f4.f2.length c8, .bool x.f5, .int .i64 x.f6] := by
    cases cs
    simpa [Value.cells] using hcs
  subst hcs'
  obtain ⟨a1, rfl, rfl, rfl, w1⟩ := open_int Try.underlying3 (hval 1 3 v1 rfl rfl) h1
  clear hA0 hval0 hsz0
  refine (walk x A2 c2 A8 c8 a1 W g g2 l2 g8 l8).mono fun e W' ⟨he, bel⟩ => ?_
  subst he
  exact ⟨_, rfl, _, _, _, [], _, [], hW', trodAll_mk1 (shut_bool Try.underlying4 _), (trodAll_cons_mk (Below.trod laidOut (by kernel_rfl) (of_decide_eq_true (by kernel_rfl)) k0 bel lt0) (trodAll_cons_mk (shut_int Try.underlying3 w1) trodAll_mk0)), rfl, bel.frame _, fun h => by cases h⟩
theorem over : Rows.checkJobsRow.holds Try.pinned (OpenSpec.ofChange Rows.checkJobsSpec) :=
  OpenClaim.holds_of_wide 4 Try.f4 rfl rfl rfl rfl rfl rfl rfl ⟨rfl, rfl, rfl, rfl, rfl⟩ rfl rfl rfl rfl rfl (by kernel_rfl) Try.func4 (by kernel_rfl)
    (of_decide_eq_true (by kernel_rfl)) (by unfold Func.isWrapper; first | (rw [if_pos (by decide +kernel)]; kernel_rfl) | (rw [if_neg (by decide +kernel)]; exact ⟨rfl, rfl⟩))
    (fun os started H enc _ => lifted os started H enc)
end Go.Proofs.Ytejeaiplbhgfdaa.checkJobs
namespace Go.Proofs.Ytejeaiplbhgfdaa
theorem checkJobs_holds : Rows.CheckJobsSaid := checkJobs.over
#print axioms checkJobs_holds
end Go.Proofs.Ytejeaiplbhgfdaa
