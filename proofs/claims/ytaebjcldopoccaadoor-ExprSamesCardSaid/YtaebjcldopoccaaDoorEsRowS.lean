/- ExprSames: at any two expressions, the law answers true, without condition beyond the row's own (the tables that the program lays hold what they hold). -/
import Derived.Test.YtaebjcldopoccaaDoorRows
import Derived.Test.YtaebjcldopoccaaDoorPureExprSames
import Derived.Test.YtaebjcldopoccaaDoorEsArg
import Derived.WalkKit
import Derived.ProofKit
import Derived.OpenShut
import Derived.ShutString
import Derived.ChangeOld
import Derived.Below
import Derived.SizedLaws
import Derived.LaidMore
import Derived.Lay
import Derived.SevenTiedAt
import Derived.Stop.Joined
import Derived.Stop.LaidErr
import Derived.Lib.LaidTab
import Derived.Test.YtaebjcldopoccaaDoorTie
import Derived.Test.YtaebjcldopoccaaDoorCards
namespace Go.Proofs.YtaebjcldopoccaaDoor.exprSames
open Go.ChangeShapes Go.WideShapes Go.ChangeAt Go.RowKit
open Go.ChangeMaps (open_string shut_string)
set_option linter.unusedVariables false
open Go.Proofs.YtaebjcldopoccaaDoorW.PrintWords Go.Proofs.YtaebjcldopoccaaDoor.Es Go.Proofs.YtaebjcldopoccaaDoor.EsArg Go.Proofs.YtaebjcldopoccaaDoor.EsLaw Go.Proofs.YtaebjcldopoccaaDoor.EsTextC Go.Proofs.YtaebjcldopoccaaDoor.EsLawS
theorem own : ownKnob Tryd.prog.godebug = none := by kernel_rfl
theorem laidOut : laidOutB Tryd.prog = true := by kernel_rfl
theorem tab_of {W : World} (h : laidMetH Tryd.prog Rows.exprSamesRow.laid W) : Tab W := by
  rw [MakeChecks.laidMetH_plain _ _ _ (by kernel_rfl)] at h
  have h2 : laidMet Tryd.prog [("internal/strconv.uint64pow10", Lib.tabData .u64 Lib.pow10Tab)] W := laidMet.tail (laidMet.tail h)
  exact Lib.tabIs_of_head (g := 1) (t := 82) (e := 76) (n := 20) (by kernel_rfl) (by kernel_rfl) Tryd.underlying82 Tryd.underlying76 (by kernel_rfl) (by kernel_rfl) h2
set_option maxRecDepth 100000 in
theorem lifted (os : Os) (started : os.Started) (H : Type) (enc : TypeId × Value → H) :
    ReturnsInHanded {} Tryd.checked os 4 .any (fun w args => (Rows.exprSamesSpec.pre enc Tryd.prog Tryd.f4 Rows.exprSamesRow.domain false w args ∧ laidMetH Tryd.prog Rows.exprSamesRow.laid w) ∧ sizedMet enc Tryd.prog Tryd.f4 (OpenSpec.ofChange Rows.exprSamesSpec) false w args) (Rows.exprSamesSpec.post enc Tryd.prog Tryd.f4 false true false false) := by
  refine returnsInHanded_of_change_and (C := Tryd.checked) (X := fun w _ => laidMetH Tryd.prog Rows.exprSamesRow.laid w) (fun _ _ _ hh h => h.of_heap hh) own started (by kernel_rfl) Tryd.func4
    (ChangeSpec.witness_shaped (enc := enc) (C := Tryd.checked) (os := os) (X := fun w _ => laidMetH Tryd.prog Rows.exprSamesRow.laid w) false (World.laidAll Tryd.prog os Rows.exprSamesRow.laid) #[.agg #[.int .i64 0, .int .u8 0, .int .i64 0, .string ByteArray.empty, .slice none 0 0], .agg #[.int .i64 0, .int .u8 0, .int .i64 0, .string ByteArray.empty, .slice none 0 0]] 8 (World.laidAll_os _ _ _)
      (World.shaped_of_ZipB (by kernel_rfl) (by kernel_rfl)) (by kernel_rfl) (by kernel_rfl) (by kernel_rfl)
      (by rw [MakeChecks.laidMetH_plain _ _ _ (by kernel_rfl)]; exact laidMet_laidAll _ (by kernel_rfl) (by kernel_rfl))) ?_
  intro W base args ds gs before hval0 hW hcnd hsz0 hL _
  have htab := tab_of hL
  clear hL
  have hval : ∀ (j : Nat) t v, Tryd.f4.params[j]? = some t → args[j]? = some v → Value.okWide Tryd.prog W .any base t v := hval0
  have hW' := hW
  obtain ⟨p, q, hA0, hV, rfl, hfz, hnd⟩ := hW
  have hA : DataW.TrodAll enc Tryd.prog W 0 (fun _ => true) true Tryd.f4.params.toList args.toList ds p := hA0
  rw [Tryd.params4] at hA hval
  obtain ⟨v0, vs0, d0, ds0, p0, q0, hargs, rfl, rfl, h0, r0⟩ := trodAll_cons hA
  obtain ⟨v1, vs1, d1, ds1, p1, q1, rfl, rfl, rfl, h1, r1⟩ := trodAll_cons r0
  obtain ⟨rfl, rfl, rfl⟩ := trodAll_nil r1
  obtain rfl : args = #[v0, v1] := by cases args; simp_all
  obtain ⟨rfl, rfl⟩ := trodVars_none hV
  obtain ⟨cs, rfl, _⟩ := okWide_struct Tryd.underlying35 (hval 0 35 v0 rfl rfl)
  obtain ⟨cs1, rfl, _⟩ := okWide_struct Tryd.underlying35 (hval 1 35 v1 rfl rfl)
  have k0 := h0
  have lt0 : ∀ x ∈ p0, x.block < W.heap.size := by obtain ⟨m, hm⟩ := k0; exact DataW.trod_lt m _ _ _ hm
  have k1 := h1
  have lt1 : ∀ x ∈ p1, x.block < W.heap.size := by obtain ⟨m, hm⟩ := k1; exact DataW.trod_lt m _ _ _ hm
  obtain ⟨fuel, hf⟩ := h0
  obtain ⟨fuel1, hf1⟩ := h1
  obtain ⟨x, hK, g⟩ := read35 _ hf
  obtain ⟨y, hK1, g1⟩ := read35 _ hf1
  obtain ⟨A, c, hcs, l4, g4⟩ := k35_open hK
  obtain ⟨B, d, hcs1, m4, j4⟩ := k35_open hK1
  have hcs' : cs = #[.int .i64 x.f0, .int .u8 x.f1.f0, .int .i64 x.f1.f1, .string x.f1.f2, .slice A x.f2.length c] := by
    cases cs
    simpa [Value.cells] using hcs
  have hcs1' : cs1 = #[.int .i64 y.f0, .int .u8 y.f1.f0, .int .i64 y.f1.f1, .string y.f1.f2, .slice B y.f2.length d] := by
    cases cs1
    simpa [Value.cells] using hcs1
  subst hcs' hcs1'
  clear hA0 hval0 hsz0
  obtain ⟨o, v, l⟩ := x
  obtain ⟨o', u, m⟩ := y
  have hin : In ⟨o, v, l⟩ A c W := ⟨g4, l4, g, htab⟩
  have hin1 : In ⟨o', u, m⟩ B d W := ⟨j4, m4, g1, htab⟩
  refine (El.gristmilllaw09_ExprSames.calls 2 o v.f0 v.f1 v.f2 A c l o' u.f0 u.f1 u.f2 B d m true W g4 l4 j4 m4 hin hin1 (El.exprSames_true o v l o' u m)).mono fun e W' ⟨he, bel⟩ => ?_
  subst he
  exact ⟨_, rfl, _, _, _, [], _, [], hW', trodAll_mk1 (shut_bool Tryd.underlying4 _), (trodAll_cons_mk (Below.trod laidOut (by kernel_rfl) (of_decide_eq_true (by kernel_rfl)) k0 bel lt0) (trodAll_cons_mk (Below.trod laidOut (by kernel_rfl) (of_decide_eq_true (by kernel_rfl)) k1 bel lt1) trodAll_mk0)), rfl, bel.frame _, fun h => by cases h⟩
theorem over : Rows.exprSamesRow.holds Tryd.pinned (OpenSpec.ofChange Rows.exprSamesSpec) :=
  OpenClaim.holds_of_wide 4 Tryd.f4 rfl rfl rfl rfl rfl rfl rfl ⟨rfl, rfl, rfl, rfl, rfl⟩ rfl rfl rfl rfl rfl (by kernel_rfl) Tryd.func4 (by kernel_rfl)
    (of_decide_eq_true (by kernel_rfl)) (by unfold Func.isWrapper; first | (rw [if_pos (by decide +kernel)]; kernel_rfl) | (rw [if_neg (by decide +kernel)]; exact ⟨rfl, rfl⟩))
    (fun os started H enc _ => lifted os started H enc)
theorem proved : Rows.ExprSamesSaid := over
#print axioms proved
end Go.Proofs.YtaebjcldopoccaaDoor.exprSames
namespace Go.Proofs.YtaebjcldopoccaaDoor
theorem exprSames_holds : Rows.ExprSamesSaid := exprSames.proved
open Go in
theorem exprSames_card : Rows.ExprSamesCardSaid :=
  Claim7.holds_tied_plain_at .later [] [.data, .data, .data] true (true, "53993aafab51a479d88fb976f7216d652c186bd1037798cbd01b6f416a45a713") false
    exprSames_holds (fun _ h => by cases h) (by kernel_rfl) (fun _ h => by cases h) exprSames_row_tie rfl ⟨rfl, rfl⟩ (by kernel_rfl) rfl
    (fun f fn hf hfn => by
      obtain rfl : f = 4 := Option.some.inj ((show Tryd.prog.funcNamed "gristmill/gristmilllaw09.ExprSames" = some 4 by kernel_rfl).symm.trans hf) |>.symm
      obtain rfl : fn = Tryd.f4 := (Option.some.inj (Tryd.func4.symm.trans hfn)).symm
      exact ⟨by kernel_rfl, fun j t ht => by
        rw [Tryd.params4] at ht
        have h3 : t = 35 := by
          rcases j with _ | _ | j
          · simpa using ht.symm
          · simpa using ht.symm
          · simp at ht
        subst h3
        exact (show Tryd.prog.wantsStandIn 35 = false by kernel_rfl)⟩)
    (by kernel_rfl)
#print axioms exprSames_card
end Go.Proofs.YtaebjcldopoccaaDoor
