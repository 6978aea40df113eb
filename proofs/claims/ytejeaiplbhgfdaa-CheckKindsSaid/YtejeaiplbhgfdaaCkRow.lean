/- CheckKinds: of every expression, at every stage, the program's kind (or error) is the document's, without condition. -/
import Derived.Test.YtejeaiplbhgfdaaRows
import Derived.Test.YtejeaiplbhgfdaaCkPure
import Derived.WalkKit
import Derived.ProofKit
import Derived.OpenShut
import Derived.ShutString
import Derived.ChangeOld
import Derived.Below
import Derived.SizedLaws
namespace Go.Proofs.Ytejeaiplbhgfdaa.checkKinds
open Go.ChangeShapes Go.WideShapes Go.ChangeAt Go.RowKit
open Go.ChangeMaps (open_string shut_string)
open Go.Proofs.YtejeaiplbhgfdaaW.PrintWords Go.Proofs.Ytejeaiplbhgfdaa.PCheckKinds Go.Proofs.Ytejeaiplbhgfdaa.CkRead Go.Proofs.Ytejeaiplbhgfdaa.CkPure
theorem own : ownKnob Try.prog.godebug = none := by kernel_rfl
theorem laidOut : laidOutB Try.prog = true := by kernel_rfl

theorem walk (x : S26) (A : Option Addr) (c : Nat) (st : Int) (acc : Bool) (w : World) (g : Fit26 x) (hC : k26.C w A x.f2.length x.f2) (hc : x.f2.length ≤ c) :
    Calls Try.prog 3 #[.agg #[.int .i64 x.f0, .int .u8 x.f1.f0, .int .i64 x.f1.f1, .string x.f1.f2, .slice A x.f2.length c], .int .i64 st, .bool acc] w fun e w' => e = .returned (.bool true) ∧ Below w.heap.size w w' := by
  obtain ⟨k, h⟩ := (law_ev x g st acc).rounds
  exact gristmilllaw12_CheckKinds.calls k x.f0 x.f1.f0 x.f1.f1 x.f1.f2 A c x.f2 st acc true w hC hc h

set_option maxRecDepth 100000 in
theorem lifted (os : Os) (started : os.Started) (H : Type) (enc : TypeId × Value → H) :
    ReturnsInHanded {} Try.checked os 3 .any (Rows.checkKindsSpec.pre6 enc Try.prog Try.f3 Rows.checkKindsRow.domain false) (Rows.checkKindsSpec.post enc Try.prog Try.f3 false true false false) := by
  refine returnsInHanded_of_change_sized (C := Try.checked) own started (by kernel_rfl) Try.func3
    (ChangeSpec.witness6 (enc := enc) (C := Try.checked) false ⟨#[], #[.agg #[.int .i64 0, .int .u8 0, .int .i64 0, .string ByteArray.empty, .slice none 0 0], .int .i64 0, .bool false], []⟩ 8 (by kernel_rfl) (by kernel_rfl) (by kernel_rfl) (by kernel_rfl)) ?_
  intro W base args ds gs before hval0 hW hcnd hsz0 _
  have hval : ∀ (j : Nat) t v, Try.f3.params[j]? = some t → args[j]? = some v → Value.okWide Try.prog W .any base t v := hval0
  have hW' := hW
  obtain ⟨p, q, hA0, hV, rfl, hfz, hnd⟩ := hW
  have hA : DataW.TrodAll enc Try.prog W 0 (fun _ => true) true Try.f3.params.toList args.toList ds p := hA0
  rw [Try.params3] at hA hval
  obtain ⟨v0, vs0, d0, ds0, p0, q0, hargs, rfl, rfl, h0, r0⟩ := trodAll_cons hA
  obtain ⟨v1, vs1, d1, ds1, p1, q1, rfl, rfl, rfl, h1, r1⟩ := trodAll_cons r0
  obtain ⟨v2, vs2, d2, ds2, p2, q2, rfl, rfl, rfl, h2, r2⟩ := trodAll_cons r1
  obtain ⟨rfl, rfl, rfl⟩ := trodAll_nil r2
  obtain rfl : args = #[v0, v1, v2] := by cases args; simp_all
  obtain ⟨rfl, rfl⟩ := trodVars_none hV
  obtain ⟨cs, rfl, _⟩ := okWide_struct Try.underlying26 (hval 0 26 v0 rfl rfl)
  have k0 := h0
  have lt0 : ∀ x ∈ p0, x.block < W.heap.size := by obtain ⟨m, hm⟩ := k0; exact DataW.trod_lt m _ _ _ hm
  obtain ⟨fuel, hf⟩ := h0
  obtain ⟨x, hK, g⟩ := read26 fuel hf
  obtain ⟨A, c, hcs, hlc, hC⟩ := k26_open hK
  have hcs' : cs = #[.int .i64 x.f0, .int .u8 x.f1.f0, .int .i64 x.f1.f1, .string x.f1.f2, .slice A x.f2.length c] := by
    cases cs
    simpa [Value.cells] using hcs
  subst hcs'
  obtain ⟨a1, rfl, rfl, rfl, w1⟩ := open_int Try.underlying3 (hval 1 3 v1 rfl rfl) h1
  obtain ⟨a2, rfl, rfl, rfl⟩ := open_bool Try.underlying4 (hval 2 4 v2 rfl rfl) h2
  clear hA0 hval0 hsz0
  refine (walk x A c a1 a2 W g hC hlc).mono fun e W' ⟨he, bel⟩ => ?_
  subst he
  exact ⟨_, rfl, _, _, _, [], _, [], hW', trodAll_mk1 (shut_bool Try.underlying4 _), (trodAll_cons_mk (Below.trod laidOut (by kernel_rfl) (of_decide_eq_true (by kernel_rfl)) k0 bel lt0) (trodAll_cons_mk (shut_int Try.underlying3 w1) (trodAll_cons_mk (shut_bool Try.underlying4 _) trodAll_mk0))), rfl, bel.frame _, fun h => by cases h⟩
theorem over : Rows.checkKindsRow.holds Try.pinned (OpenSpec.ofChange Rows.checkKindsSpec) :=
  OpenClaim.holds_of_wide 3 Try.f3 rfl rfl rfl rfl rfl rfl rfl ⟨rfl, rfl, rfl, rfl, rfl⟩ rfl rfl rfl rfl rfl (by kernel_rfl) Try.func3 (by kernel_rfl)
    (of_decide_eq_true (by kernel_rfl)) (by unfold Func.isWrapper; first | (rw [if_pos (by decide +kernel)]; kernel_rfl) | (rw [if_neg (by decide +kernel)]; exact ⟨rfl, rfl⟩))
    (fun os started H enc _ => lifted os started H enc)
end Go.Proofs.Ytejeaiplbhgfdaa.checkKinds
namespace Go.Proofs.Ytejeaiplbhgfdaa
theorem checkKinds_holds : Rows.CheckKindsSaid := checkKinds.over
#print axioms checkKinds_holds
end Go.Proofs.Ytejeaiplbhgfdaa
