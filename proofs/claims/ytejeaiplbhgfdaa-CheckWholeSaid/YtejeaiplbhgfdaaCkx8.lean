-- WRITTEN BY given-print.py (wip/tools), a program of this session's, out of the translation
import Derived.Test.YtejeaiplbhgfdaaCkx0
import Derived.Test.YtejeaiplbhgfdaaCkx4
import Derived.Test.YtejeaiplbhgfdaaCkx5
import Derived.Test.YtejeaiplbhgfdaaCkx6
import Derived.Test.YtejeaiplbhgfdaaCkx7
namespace Go.Proofs.Ytejeaiplbhgfdaa.Ck
open Go.RowKit Go.Proofs.YtejeaiplbhgfdaaW.PrintWords Go.Proofs.YtejeaiplbhgfdaaW.PrintLast Go.Proofs.YtejeaiplbhgfdaaW.PrintMore
attribute [local go_sem] max2_int min2_int max_two min_two max_three min_three max_four min_four   -- for this text's walks alone
set_option linter.unusedVariables false
set_option linter.unusedSimpArgs false

/-! ### gristmilllaw12_CheckWhole: function 5 -/
mutual
def gristmilllaw12_CheckWhole.j0 : Nat → Int → ByteArray → Int → List (S47) → Int → Int → Int → Int → ByteArray → List (S26) → Bool → Int → Option (Bool)
  | 0, _, _, _, _, _, _, _, _, _, _, _, _ => none
  | k + 1, x5, x230000, x230001, x230002, x230003, x230004, x230005, x230006, x230007, x230008, x230009, x230010 => (check_Acc.f k x230000 x230001 x230002 x230003 x230004 x230005 x230006 x230007 x230008 x230009 x230010).bind fun bt236 => ((check_Kind.f k x230004 x230005 x230006 x230007 x230008 2 bt236.1).bind fun bt238 => ((gristmilllaw12_code.f bt236.2).bind fun t240 => ((gristmilllaw12_code.f bt238.2).bind fun t241 => (if (wrap64 (t240 + t241)) = 0 then (if bt238.1 = 1 then (if x230009 = true then ((check_Commutes.f x230003).bind fun t242 => (gristmilllaw12_CheckWhole.j1 k x5 (!t242) x230000 x230001 x230002 x230003 x230004 x230005 x230006 x230007 x230008 x230009 x230010)) else (gristmilllaw12_CheckWhole.j1 k x5 false x230000 x230001 x230002 x230003 x230004 x230005 x230006 x230007 x230008 x230009 x230010)) else (gristmilllaw12_CheckWhole.j1 k x5 true x230000 x230001 x230002 x230003 x230004 x230005 x230006 x230007 x230008 x230009 x230010)) else (gristmilllaw12_CheckWhole.j1 k x5 true x230000 x230001 x230002 x230003 x230004 x230005 x230006 x230007 x230008 x230009 x230010)))))
def gristmilllaw12_CheckWhole.j1 : Nat → Int → Bool → ByteArray → Int → List (S47) → Int → Int → Int → Int → ByteArray → List (S26) → Bool → Int → Option (Bool)
  | 0, _, _, _, _, _, _, _, _, _, _, _, _, _ => none
  | k + 1, x5, x61, x230000, x230001, x230002, x230003, x230004, x230005, x230006, x230007, x230008, x230009, x230010 => if x61 = true then (some false) else (gristmilllaw12_CheckWhole.l0 k x5 0 x230000 x230001 x230002 x230003 x230004 x230005 x230006 x230007 x230008 x230009 x230010)
def gristmilllaw12_CheckWhole.l0 : Nat → Int → Int → ByteArray → Int → List (S47) → Int → Int → Int → Int → ByteArray → List (S26) → Bool → Int → Option (Bool)
  | 0, _, _, _, _, _, _, _, _, _, _, _, _, _ => none
  | k + 1, x5, x10, x230000, x230001, x230002, x230003, x230004, x230005, x230006, x230007, x230008, x230009, x230010 => if x10 < (x230002.length : Int) then (if 0 ≤ x10 then ((check_Kind.f k ((rd_T47 x230002 x10).f0.f0) ((rd_T47 x230002 x10).f0.f1.f0) ((rd_T47 x230002 x10).f0.f1.f1) ((rd_T47 x230002 x10).f0.f1.f2) ((rd_T47 x230002 x10).f0.f2) x5 0).bind fun bt245 => ((check_Kind.f k ((rd_T47 x230002 x10).f2.f0) ((rd_T47 x230002 x10).f2.f1.f0) ((rd_T47 x230002 x10).f2.f1.f1) ((rd_T47 x230002 x10).f2.f1.f2) ((rd_T47 x230002 x10).f2.f2) x5 0).bind fun bt248 => ((gristmilllaw12_code.f bt245.2).bind fun t250 => ((gristmilllaw12_code.f bt248.2).bind fun t251 => (if (wrap64 (t250 + t251)) = 0 then (if bt245.1 = 1 then (if bt248.1 = 0 then (gristmilllaw12_CheckWhole.l0 k x5 (wrap64 (x10 + 1)) x230000 x230001 x230002 x230003 x230004 x230005 x230006 x230007 x230008 x230009 x230010) else (some false)) else (some false)) else (some false)))))) else (none)) else ((gristmilllaw12_live.f k).bind fun t243 => (some t243))
end
def gristmilllaw12_CheckWhole.f (k : Nat) (a0_0 : ByteArray) (a0_1 : Int) (l0_2 : List (S47)) (a0_3 : Int) (a0_4 : Int) (a0_5 : Int) (a0_6 : Int) (a0_7 : ByteArray) (l0_8 : List (S26)) (a0_9 : Bool) (a0_10 : Int) : Option (Bool) := (gristmillref11_Big.f k a0_0 a0_1 l0_2 a0_3 a0_4 a0_5 a0_6 a0_7 l0_8 a0_9 a0_10).bind fun t230 => (if t230 = true then ((gristmilllaw12_live.f k).bind fun t231 => (some t231)) else ((check_Job.f k a0_0 a0_1 l0_2 a0_3 a0_4 a0_5 a0_6 a0_7 l0_8 a0_9 a0_10).bind fun bt232 => ((gristmilllaw12_code.f bt232.2).bind fun t234 => (if t234 = 0 then (if a0_1 ≥ 0 then (gristmilllaw12_CheckWhole.j0 k 1 a0_0 a0_1 l0_2 a0_3 a0_4 a0_5 a0_6 a0_7 l0_8 a0_9 a0_10) else (gristmilllaw12_CheckWhole.j0 k 0 a0_0 a0_1 l0_2 a0_3 a0_4 a0_5 a0_6 a0_7 l0_8 a0_9 a0_10)) else ((gristmilllaw12_live.f k).bind fun t235 => (some t235))))))
theorem gristmilllaw12_CheckWhole.mono_l : ∀ k, (∀ y0 y1 y2 y3 y4 y5 y6 y7 y8 y9 y10 y11, LeO (gristmilllaw12_CheckWhole.j0 k y0 y1 y2 y3 y4 y5 y6 y7 y8 y9 y10 y11) (gristmilllaw12_CheckWhole.j0 (k + 1) y0 y1 y2 y3 y4 y5 y6 y7 y8 y9 y10 y11)) ∧ (∀ y0 y1 y2 y3 y4 y5 y6 y7 y8 y9 y10 y11 y12, LeO (gristmilllaw12_CheckWhole.j1 k y0 y1 y2 y3 y4 y5 y6 y7 y8 y9 y10 y11 y12) (gristmilllaw12_CheckWhole.j1 (k + 1) y0 y1 y2 y3 y4 y5 y6 y7 y8 y9 y10 y11 y12)) ∧ (∀ y0 y1 y2 y3 y4 y5 y6 y7 y8 y9 y10 y11 y12, LeO (gristmilllaw12_CheckWhole.l0 k y0 y1 y2 y3 y4 y5 y6 y7 y8 y9 y10 y11 y12) (gristmilllaw12_CheckWhole.l0 (k + 1) y0 y1 y2 y3 y4 y5 y6 y7 y8 y9 y10 y11 y12))
  | 0 => ⟨fun _ _ _ _ _ _ _ _ _ _ _ _ r h => by simp [gristmilllaw12_CheckWhole.j0] at h, fun _ _ _ _ _ _ _ _ _ _ _ _ _ r h => by simp [gristmilllaw12_CheckWhole.j1] at h, fun _ _ _ _ _ _ _ _ _ _ _ _ _ r h => by simp [gristmilllaw12_CheckWhole.l0] at h⟩
  | k + 1 => by
    obtain ⟨ih0, ih1, ih2⟩ := gristmilllaw12_CheckWhole.mono_l k
    refine ⟨?_, ?_, ?_⟩
    · intro y0 y1 y2 y3 y4 y5 y6 y7 y8 y9 y10 y11
      unfold gristmilllaw12_CheckWhole.j0
      repeat' first
      | (with_reducible exact ih0 _ _ _ _ _ _ _ _ _ _ _ _)
      | (with_reducible exact ih1 _ _ _ _ _ _ _ _ _ _ _ _ _)
      | (with_reducible exact ih2 _ _ _ _ _ _ _ _ _ _ _ _ _)
      | (with_reducible exact check_Acc.mono _ _ _ _ _ _ _ _ _ _ _ _)
      | (with_reducible exact check_Job.mono _ _ _ _ _ _ _ _ _ _ _ _)
      | (with_reducible exact check_Kind.mono _ _ _ _ _ _ _ _)
      | (with_reducible exact gristmilllaw12_live.mono _)
      | (with_reducible exact gristmillref11_Big.mono _ _ _ _ _ _ _ _ _ _ _ _)
      | (with_reducible exact LeO.refl _)
      | (with_reducible exact LeO.none _)
      | (with_reducible refine LeO.ite ?_ ?_)
      | (with_reducible refine LeO.bind ?_ (fun _ => ?_))
      | exact ih0 _ _ _ _ _ _ _ _ _ _ _ _
      | exact ih1 _ _ _ _ _ _ _ _ _ _ _ _ _
      | exact ih2 _ _ _ _ _ _ _ _ _ _ _ _ _
      | exact check_Acc.mono _ _ _ _ _ _ _ _ _ _ _ _
      | exact check_Job.mono _ _ _ _ _ _ _ _ _ _ _ _
      | exact check_Kind.mono _ _ _ _ _ _ _ _
      | exact gristmilllaw12_live.mono _
      | exact gristmillref11_Big.mono _ _ _ _ _ _ _ _ _ _ _ _
      | exact LeO.none _
      | refine LeO.ite ?_ ?_
      | refine LeO.bind ?_ (fun _ => ?_)
    · intro y0 y1 y2 y3 y4 y5 y6 y7 y8 y9 y10 y11 y12
      unfold gristmilllaw12_CheckWhole.j1
      repeat' first
      | (with_reducible exact ih0 _ _ _ _ _ _ _ _ _ _ _ _)
      | (with_reducible exact ih1 _ _ _ _ _ _ _ _ _ _ _ _ _)
      | (with_reducible exact ih2 _ _ _ _ _ _ _ _ _ _ _ _ _)
      | (with_reducible exact check_Acc.mono _ _ _ _ _ _ _ _ _ _ _ _)
      | (with_reducible exact check_Job.mono _ _ _ _ _ _ _ _ _ _ _ _)
      | (with_reducible exact check_Kind.mono _ _ _ _ _ _ _ _)
      | (with_reducible exact gristmilllaw12_live.mono _)
      | (with_reducible exact gristmillref11_Big.mono _ _ _ _ _ _ _ _ _ _ _ _)
      | (with_reducible exact LeO.refl _)
      | (with_reducible exact LeO.none _)
      | (with_reducible refine LeO.ite ?_ ?_)
      | (with_reducible refine LeO.bind ?_ (fun _ => ?_))
      | exact ih0 _ _ _ _ _ _ _ _ _ _ _ _
      | exact ih1 _ _ _ _ _ _ _ _ _ _ _ _ _
      | exact ih2 _ _ _ _ _ _ _ _ _ _ _ _ _
      | exact check_Acc.mono _ _ _ _ _ _ _ _ _ _ _ _
      | exact check_Job.mono _ _ _ _ _ _ _ _ _ _ _ _
      | exact check_Kind.mono _ _ _ _ _ _ _ _
      | exact gristmilllaw12_live.mono _
      | exact gristmillref11_Big.mono _ _ _ _ _ _ _ _ _ _ _ _
      | exact LeO.none _
      | refine LeO.ite ?_ ?_
      | refine LeO.bind ?_ (fun _ => ?_)
    · intro y0 y1 y2 y3 y4 y5 y6 y7 y8 y9 y10 y11 y12
      unfold gristmilllaw12_CheckWhole.l0
      repeat' first
      | (with_reducible exact ih0 _ _ _ _ _ _ _ _ _ _ _ _)
      | (with_reducible exact ih1 _ _ _ _ _ _ _ _ _ _ _ _ _)
      | (with_reducible exact ih2 _ _ _ _ _ _ _ _ _ _ _ _ _)
      | (with_reducible exact check_Acc.mono _ _ _ _ _ _ _ _ _ _ _ _)
      | (with_reducible exact check_Job.mono _ _ _ _ _ _ _ _ _ _ _ _)
      | (with_reducible exact check_Kind.mono _ _ _ _ _ _ _ _)
      | (with_reducible exact gristmilllaw12_live.mono _)
      | (with_reducible exact gristmillref11_Big.mono _ _ _ _ _ _ _ _ _ _ _ _)
      | (with_reducible exact LeO.refl _)
      | (with_reducible exact LeO.none _)
      | (with_reducible refine LeO.ite ?_ ?_)
      | (with_reducible refine LeO.bind ?_ (fun _ => ?_))
      | exact ih0 _ _ _ _ _ _ _ _ _ _ _ _
      | exact ih1 _ _ _ _ _ _ _ _ _ _ _ _ _
      | exact ih2 _ _ _ _ _ _ _ _ _ _ _ _ _
      | exact check_Acc.mono _ _ _ _ _ _ _ _ _ _ _ _
      | exact check_Job.mono _ _ _ _ _ _ _ _ _ _ _ _
      | exact check_Kind.mono _ _ _ _ _ _ _ _
      | exact gristmilllaw12_live.mono _
      | exact gristmillref11_Big.mono _ _ _ _ _ _ _ _ _ _ _ _
      | exact LeO.none _
      | refine LeO.ite ?_ ?_
      | refine LeO.bind ?_ (fun _ => ?_)
theorem gristmilllaw12_CheckWhole.mono : ∀ a0 a1 a2 a3 a4 a5 a6 a7 a8 a9 a10 k, LeO (gristmilllaw12_CheckWhole.f k a0 a1 a2 a3 a4 a5 a6 a7 a8 a9 a10) (gristmilllaw12_CheckWhole.f (k + 1) a0 a1 a2 a3 a4 a5 a6 a7 a8 a9 a10) := by
  intro a0 a1 a2 a3 a4 a5 a6 a7 a8 a9 a10 k
  obtain ⟨ih0, ih1, ih2⟩ := gristmilllaw12_CheckWhole.mono_l k
  unfold gristmilllaw12_CheckWhole.f
  repeat' first
      | (with_reducible exact ih0 _ _ _ _ _ _ _ _ _ _ _ _)
      | (with_reducible exact ih1 _ _ _ _ _ _ _ _ _ _ _ _ _)
      | (with_reducible exact ih2 _ _ _ _ _ _ _ _ _ _ _ _ _)
      | (with_reducible exact check_Acc.mono _ _ _ _ _ _ _ _ _ _ _ _)
      | (with_reducible exact check_Job.mono _ _ _ _ _ _ _ _ _ _ _ _)
      | (with_reducible exact check_Kind.mono _ _ _ _ _ _ _ _)
      | (with_reducible exact gristmilllaw12_live.mono _)
      | (with_reducible exact gristmillref11_Big.mono _ _ _ _ _ _ _ _ _ _ _ _)
      | (with_reducible exact LeO.refl _)
      | (with_reducible exact LeO.none _)
      | (with_reducible refine LeO.ite ?_ ?_)
      | (with_reducible refine LeO.bind ?_ (fun _ => ?_))
      | exact ih0 _ _ _ _ _ _ _ _ _ _ _ _
      | exact ih1 _ _ _ _ _ _ _ _ _ _ _ _ _
      | exact ih2 _ _ _ _ _ _ _ _ _ _ _ _ _
      | exact check_Acc.mono _ _ _ _ _ _ _ _ _ _ _ _
      | exact check_Job.mono _ _ _ _ _ _ _ _ _ _ _ _
      | exact check_Kind.mono _ _ _ _ _ _ _ _
      | exact gristmilllaw12_live.mono _
      | exact gristmillref11_Big.mono _ _ _ _ _ _ _ _ _ _ _ _
      | exact LeO.none _
      | refine LeO.ite ?_ ?_
      | refine LeO.bind ?_ (fun _ => ?_)
set_option maxHeartbeats 8000000 in
set_option maxRecDepth 100000 in
theorem gristmilllaw12_CheckWhole.calls (k : Nat) (a0_0 : ByteArray) (a0_1 : Int) (A0_2 : Option Addr) (c0_2 : Nat) (l0_2 : List (S47)) (a0_3 : Int) (a0_4 : Int) (a0_5 : Int) (a0_6 : Int) (a0_7 : ByteArray) (A0_8 : Option Addr) (c0_8 : Nat) (l0_8 : List (S26)) (a0_9 : Bool) (a0_10 : Int) (r : Bool) (w : World) (hr0_2 : Kd.C k47 w A0_2 l0_2.length l0_2) (hc0_2 : l0_2.length ≤ c0_2) (hr0_8 : Kd.C k26 w A0_8 l0_8.length l0_8) (hc0_8 : l0_8.length ≤ c0_8) (h : gristmilllaw12_CheckWhole.f k a0_0 a0_1 l0_2 a0_3 a0_4 a0_5 a0_6 a0_7 l0_8 a0_9 a0_10 = some r) :
    Calls Try.prog 5 #[.agg #[.string a0_0, .int .i64 a0_1, .slice A0_2 l0_2.length c0_2, .int .i64 a0_3, .int .i64 a0_4, .int .u8 a0_5, .int .i64 a0_6, .string a0_7, .slice A0_8 l0_8.length c0_8, .bool a0_9, .int .i64 a0_10]] w fun e w' => e = .returned (.bool r) ∧ Below w.heap.size w w' := by
  have hu38 := Try.underlying38
  have hu26 := Try.underlying26
  have HR0_2 := Aside0.mk hr0_2
  have HC0_2 := Aside0.mk hc0_2
  clear hr0_2 hc0_2
  have HR0_8 := Aside0.mk hr0_8
  have HC0_8 := Aside0.mk hc0_8
  clear hr0_8 hc0_8
  have HB := Aside0.mk (Below.refl w.heap.size w)
  have H : ((gristmillref11_Big.f k a0_0 a0_1 l0_2 a0_3 a0_4 a0_5 a0_6 a0_7 l0_8 a0_9 a0_10).bind fun t230 => (if t230 = true then ((gristmilllaw12_live.f k).bind fun t231 => (some t231)) else ((check_Job.f k a0_0 a0_1 l0_2 a0_3 a0_4 a0_5 a0_6 a0_7 l0_8 a0_9 a0_10).bind fun bt232 => ((gristmilllaw12_code.f bt232.2).bind fun t234 => (if t234 = 0 then (if a0_1 ≥ 0 then (gristmilllaw12_CheckWhole.j0 k 1 a0_0 a0_1 l0_2 a0_3 a0_4 a0_5 a0_6 a0_7 l0_8 a0_9 a0_10) else (gristmilllaw12_CheckWhole.j0 k 0 a0_0 a0_1 l0_2 a0_3 a0_4 a0_5 a0_6 a0_7 l0_8 a0_9 a0_10)) else ((gristmilllaw12_live.f k).bind fun t235 => (some t235))))))) = some r := h
  clear h
  replace H := Option.bind_eq_some_iff.mp H
  obtain ⟨t230, A20, H⟩ := H
  replace H : (if t230 = true then ((gristmilllaw12_live.f k).bind fun t231 => (some t231)) else ((check_Job.f k a0_0 a0_1 l0_2 a0_3 a0_4 a0_5 a0_6 a0_7 l0_8 a0_9 a0_10).bind fun bt232 => ((gristmilllaw12_code.f bt232.2).bind fun t234 => (if t234 = 0 then (if a0_1 ≥ 0 then (gristmilllaw12_CheckWhole.j0 k 1 a0_0 a0_1 l0_2 a0_3 a0_4 a0_5 a0_6 a0_7 l0_8 a0_9 a0_10) else (gristmilllaw12_CheckWhole.j0 k 0 a0_0 a0_1 l0_2 a0_3 a0_4 a0_5 a0_6 a0_7 l0_8 a0_9 a0_10)) else ((gristmilllaw12_live.f k).bind fun t235 => (some t235)))))) = some r := H
  have A2 := Aside0.mk A20
  clear A20
  by_cases c3 : t230 = true
  · subst c3
    have H1 : ((gristmilllaw12_live.f k).bind fun t231 => (some t231)) = some r := by rw [if_pos rfl] at H; exact H
    clear H
    have H := H1
    clear H1
    replace H := Option.bind_eq_some_iff.mp H
    obtain ⟨t231, A40, H⟩ := H
    replace H : (some t231) = some r := H
    have A4 := Aside0.mk A40
    clear A40
    obtain rfl := Option.some.inj H
    go_enter Try.func5, Try.ntmps5
    go_wp2_with (first | ((with_reducible refine gate_dst (N := 1) rfl ?_); refine box_event ?hg (N := 1) ?hd (cs := #[.string a0_0, .int .i64 a0_1, .slice A0_2 l0_2.length c0_2, .int .i64 a0_3, .int .i64 a0_4, .int .u8 a0_5, .int .i64 a0_6, .string a0_7, .slice A0_8 l0_8.length c0_8, .bool a0_9, .int .i64 a0_10]) (t := 38) ?hr ?_; (case hd => rfl); (case hg => rfl); (case hr => first | (go_simp; done) | (go_simp; rfl)); intro gb229 hg w5 hbox hb; have n0_ := Aside0.mk (below_step (by repeat (first | (with_reducible first | exact HB.out | apply below_alloc | apply pw_below_drewN | apply below_drew1) | exact HB.out)) hb); have n1_ := Aside0.mk (hbox); have n2_ := Aside0.mk ((by rw [hg]; exact (below_size (by repeat (first | (with_reducible first | exact HB.out | apply below_alloc | apply pw_below_drewN | apply below_drew1) | exact HB.out))) : w.heap.size ≤ gb229)); have n3_ := Aside0.mk ((by rw [hg]; exact (below_size (by repeat (first | (with_reducible first | exact HB.out | apply below_alloc | apply pw_below_drewN | apply below_drew1) | exact HB.out))) : w.heap.size ≤ gb229)); clear HB; have HB := n0_; have BK229 := n1_; have GW229 := n2_; have GE229 := n3_; clear n0_ n1_ n2_ n3_; clear hb hbox hg; have hcz6_0 : w5.cell? ⟨gb229, 0, none⟩ = some (.string a0_0) := (blk_cell BK229.out 0).trans rfl; have hcz6_1 : w5.cell? ⟨gb229, 1, none⟩ = some (.int .i64 a0_1) := (blk_cell BK229.out 1).trans rfl; have hcz6_2 : w5.cell? ⟨gb229, 2, none⟩ = some (.slice A0_2 l0_2.length c0_2) := (blk_cell BK229.out 2).trans rfl; have hcz6_3 : w5.cell? ⟨gb229, 3, none⟩ = some (.int .i64 a0_3) := (blk_cell BK229.out 3).trans rfl; have hcz6_4 : w5.cell? ⟨gb229, 4, none⟩ = some (.int .i64 a0_4) := (blk_cell BK229.out 4).trans rfl; have hcz6_5 : w5.cell? ⟨gb229, 5, none⟩ = some (.int .u8 a0_5) := (blk_cell BK229.out 5).trans rfl; have hcz6_6 : w5.cell? ⟨gb229, 6, none⟩ = some (.int .i64 a0_6) := (blk_cell BK229.out 6).trans rfl; have hcz6_7 : w5.cell? ⟨gb229, 7, none⟩ = some (.string a0_7) := (blk_cell BK229.out 7).trans rfl; have hcz6_8 : w5.cell? ⟨gb229, 8, none⟩ = some (.slice A0_8 l0_8.length c0_8) := (blk_cell BK229.out 8).trans rfl; have hcz6_9 : w5.cell? ⟨gb229, 9, none⟩ = some (.bool a0_9) := (blk_cell BK229.out 9).trans rfl; have hcz6_10 : w5.cell? ⟨gb229, 10, none⟩ = some (.int .i64 a0_10) := (blk_cell BK229.out 10).trans rfl; have hfz6_0 := blk_frozen BK229.out 0; have hfz6_1 := blk_frozen BK229.out 1; have hfz6_2 := blk_frozen BK229.out 2; have hfz6_3 := blk_frozen BK229.out 3; have hfz6_4 := blk_frozen BK229.out 4; have hfz6_5 := blk_frozen BK229.out 5; have hfz6_6 := blk_frozen BK229.out 6; have hfz6_7 := blk_frozen BK229.out 7; have hfz6_8 := blk_frozen BK229.out 8; have hfz6_9 := blk_frozen BK229.out 9; have hfz6_10 := blk_frozen BK229.out 10) | ((with_reducible refine gate_callee (f := 11) rfl ?_); refine goesL_ (some 16) rfl rfl Try.func11 (by kernel_rfl) rfl #[.agg #[.string a0_0, .int .i64 a0_1, .slice A0_2 l0_2.length c0_2, .int .i64 a0_3, .int .i64 a0_4, .int .u8 a0_5, .int .i64 a0_6, .string a0_7, .slice A0_8 l0_8.length c0_8, .bool a0_9, .int .i64 a0_10]] rfl (by (try simp only [List.map_toArray, List.map_cons, List.map_nil]); first | done | rfl | (simp only [List.length_drop, List.length_take]; rfl)) ?_; (with_reducible refine (gristmillref11_Big.calls k a0_0 a0_1 _ _ l0_2 a0_3 a0_4 a0_5 a0_6 a0_7 _ _ l0_8 a0_9 a0_10 true _ ?side1 ?side2 ?side3 ?side4 A2.out).mono ?_); (case side1 => repeat (first | exact (Kd.C_below HR0_2.out HB.out) | (with_reducible refine Kd.C_alloc ?_ _) | (with_reducible refine Kd.C_drewN ?_ _) | (with_reducible refine Kd.C_drew ?_))); (case side2 => exact HC0_2.out); (case side3 => repeat (first | exact (Kd.C_below HR0_8.out HB.out) | (with_reducible refine Kd.C_alloc ?_ _) | (with_reducible refine Kd.C_drewN ?_ _) | (with_reducible refine Kd.C_drew ?_))); (case side4 => exact HC0_8.out); rintro e w7 ⟨rfl, hb⟩; refine ⟨_, rfl, ?_⟩; have n0_ := Aside0.mk (blk_below (g := gb229) (o := .cells #[.string a0_0, .int .i64 a0_1, .slice A0_2 l0_2.length c0_2, .int .i64 a0_3, .int .i64 a0_4, .int .u8 a0_5, .int .i64 a0_6, .string a0_7, .slice A0_8 l0_8.length c0_8, .bool a0_9, .int .i64 a0_10] 38 (0, 0)) (by (with_reducible repeat (first | refine blk_drewN ?_ _ | refine blk_drew ?_ | refine blk_alloc ?_ _)); exact BK229.out) hb); have n1_ := Aside0.mk (below_step (by repeat (first | (with_reducible first | exact HB.out | apply below_alloc | apply pw_below_drewN | apply below_drew1 | refine below_set ?_ GE229.out) | exact HB.out)) hb); clear BK229; clear HB; have BK229 := n0_; have HB := n1_; clear n0_ n1_; (try clear hb); (try clear hb2); (try clear hk); (try clear hi)) | ((with_reducible refine gate_callee (f := 7) rfl ?_); refine goesL_ (some 17) rfl rfl Try.func7 (by kernel_rfl) rfl #[] rfl (by (try simp only [List.map_toArray, List.map_cons, List.map_nil]); first | done | rfl | (simp only [List.length_drop, List.length_take]; rfl)) ?_; (with_reducible refine (gristmilllaw12_live.calls k  t231 _ A4.out).mono ?_); rintro e w8 ⟨rfl, hb⟩; refine ⟨_, rfl, ?_⟩; have n0_ := Aside0.mk (blk_below (g := gb229) (o := .cells #[.string a0_0, .int .i64 a0_1, .slice A0_2 l0_2.length c0_2, .int .i64 a0_3, .int .i64 a0_4, .int .u8 a0_5, .int .i64 a0_6, .string a0_7, .slice A0_8 l0_8.length c0_8, .bool a0_9, .int .i64 a0_10] 38 (0, 0)) (by (with_reducible repeat (first | refine blk_drewN ?_ _ | refine blk_drew ?_ | refine blk_alloc ?_ _)); exact BK229.out) hb); have n1_ := Aside0.mk (below_step (by repeat (first | (with_reducible first | exact HB.out | apply below_alloc | apply pw_below_drewN | apply below_drew1 | refine below_set ?_ GE229.out) | exact HB.out)) hb); clear BK229; clear HB; have BK229 := n0_; have HB := n1_; clear n0_ n1_; (try clear hb); (try clear hb2); (try clear hk); (try clear hi)))
    go_ret
    exact ⟨by first | rfl | (simp [errW_none, errW_some] <;> rfl) | (simp [*, errW_none, errW_some] <;> rfl), by repeat (first | (with_reducible first | exact HB.out | apply below_alloc | apply pw_below_drewN | apply below_drew1 | refine below_set ?_ GE229.out) | exact HB.out)⟩
  · replace c3 := Bool.eq_false_iff.mpr c3
    subst c3
    have H1 : ((check_Job.f k a0_0 a0_1 l0_2 a0_3 a0_4 a0_5 a0_6 a0_7 l0_8 a0_9 a0_10).bind fun bt232 => ((gristmilllaw12_code.f bt232.2).bind fun t234 => (if t234 = 0 then (if a0_1 ≥ 0 then (gristmilllaw12_CheckWhole.j0 k 1 a0_0 a0_1 l0_2 a0_3 a0_4 a0_5 a0_6 a0_7 l0_8 a0_9 a0_10) else (gristmilllaw12_CheckWhole.j0 k 0 a0_0 a0_1 l0_2 a0_3 a0_4 a0_5 a0_6 a0_7 l0_8 a0_9 a0_10)) else ((gristmilllaw12_live.f k).bind fun t235 => (some t235))))) = some r := by rw [if_neg (show ¬ (false = true) by decide)] at H; exact H
    clear H
    have H := H1
    clear H1
    replace H := Option.bind_eq_some_iff.mp H
    obtain ⟨⟨t232, t233⟩, A90, H⟩ := H
    replace H : ((gristmilllaw12_code.f t233).bind fun t234 => (if t234 = 0 then (if a0_1 ≥ 0 then (gristmilllaw12_CheckWhole.j0 k 1 a0_0 a0_1 l0_2 a0_3 a0_4 a0_5 a0_6 a0_7 l0_8 a0_9 a0_10) else (gristmilllaw12_CheckWhole.j0 k 0 a0_0 a0_1 l0_2 a0_3 a0_4 a0_5 a0_6 a0_7 l0_8 a0_9 a0_10)) else ((gristmilllaw12_live.f k).bind fun t235 => (some t235)))) = some r := H
    have A9 := Aside0.mk A90
    clear A90
    replace H := Option.bind_eq_some_iff.mp H
    obtain ⟨t234, A100, H⟩ := H
    replace H : (if t234 = 0 then (if a0_1 ≥ 0 then (gristmilllaw12_CheckWhole.j0 k 1 a0_0 a0_1 l0_2 a0_3 a0_4 a0_5 a0_6 a0_7 l0_8 a0_9 a0_10) else (gristmilllaw12_CheckWhole.j0 k 0 a0_0 a0_1 l0_2 a0_3 a0_4 a0_5 a0_6 a0_7 l0_8 a0_9 a0_10)) else ((gristmilllaw12_live.f k).bind fun t235 => (some t235))) = some r := H
    have A10 := Aside0.mk A100
    clear A100
    by_cases c11 : t234 = 0
    · rw [if_pos c11] at H
      have c11b0 : (t234 == 0) = true := beq_iff_eq.mpr c11
      have c11b1 : (t234 != 0) = false := bne_eq_false_iff_eq.mpr c11
      clear c11
      have HC12 := Aside0.mk H
      clear H
      go_enter Try.func5, Try.ntmps5
      go_upto_if 29 with (first | ((with_reducible refine gate_dst (N := 1) rfl ?_); refine box_event ?hg (N := 1) ?hd (cs := #[.string a0_0, .int .i64 a0_1, .slice A0_2 l0_2.length c0_2, .int .i64 a0_3, .int .i64 a0_4, .int .u8 a0_5, .int .i64 a0_6, .string a0_7, .slice A0_8 l0_8.length c0_8, .bool a0_9, .int .i64 a0_10]) (t := 38) ?hr ?_; (case hd => rfl); (case hg => rfl); (case hr => first | (go_simp; done) | (go_simp; rfl)); intro gb229 hg w13 hbox hb; have n0_ := Aside0.mk (below_step (by repeat (first | (with_reducible first | exact HB.out | apply below_alloc | apply pw_below_drewN | apply below_drew1) | exact HB.out)) hb); have n1_ := Aside0.mk (hbox); have n2_ := Aside0.mk ((by rw [hg]; exact (below_size (by repeat (first | (with_reducible first | exact HB.out | apply below_alloc | apply pw_below_drewN | apply below_drew1) | exact HB.out))) : w.heap.size ≤ gb229)); have n3_ := Aside0.mk ((by rw [hg]; exact (below_size (by repeat (first | (with_reducible first | exact HB.out | apply below_alloc | apply pw_below_drewN | apply below_drew1) | exact HB.out))) : w.heap.size ≤ gb229)); clear HB; have HB := n0_; have BK229 := n1_; have GW229 := n2_; have GE229 := n3_; clear n0_ n1_ n2_ n3_; clear hb hbox hg; have hcz14_0 : w13.cell? ⟨gb229, 0, none⟩ = some (.string a0_0) := (blk_cell BK229.out 0).trans rfl; have hcz14_1 : w13.cell? ⟨gb229, 1, none⟩ = some (.int .i64 a0_1) := (blk_cell BK229.out 1).trans rfl; have hcz14_2 : w13.cell? ⟨gb229, 2, none⟩ = some (.slice A0_2 l0_2.length c0_2) := (blk_cell BK229.out 2).trans rfl; have hcz14_3 : w13.cell? ⟨gb229, 3, none⟩ = some (.int .i64 a0_3) := (blk_cell BK229.out 3).trans rfl; have hcz14_4 : w13.cell? ⟨gb229, 4, none⟩ = some (.int .i64 a0_4) := (blk_cell BK229.out 4).trans rfl; have hcz14_5 : w13.cell? ⟨gb229, 5, none⟩ = some (.int .u8 a0_5) := (blk_cell BK229.out 5).trans rfl; have hcz14_6 : w13.cell? ⟨gb229, 6, none⟩ = some (.int .i64 a0_6) := (blk_cell BK229.out 6).trans rfl; have hcz14_7 : w13.cell? ⟨gb229, 7, none⟩ = some (.string a0_7) := (blk_cell BK229.out 7).trans rfl; have hcz14_8 : w13.cell? ⟨gb229, 8, none⟩ = some (.slice A0_8 l0_8.length c0_8) := (blk_cell BK229.out 8).trans rfl; have hcz14_9 : w13.cell? ⟨gb229, 9, none⟩ = some (.bool a0_9) := (blk_cell BK229.out 9).trans rfl; have hcz14_10 : w13.cell? ⟨gb229, 10, none⟩ = some (.int .i64 a0_10) := (blk_cell BK229.out 10).trans rfl; have hfz14_0 := blk_frozen BK229.out 0; have hfz14_1 := blk_frozen BK229.out 1; have hfz14_2 := blk_frozen BK229.out 2; have hfz14_3 := blk_frozen BK229.out 3; have hfz14_4 := blk_frozen BK229.out 4; have hfz14_5 := blk_frozen BK229.out 5; have hfz14_6 := blk_frozen BK229.out 6; have hfz14_7 := blk_frozen BK229.out 7; have hfz14_8 := blk_frozen BK229.out 8; have hfz14_9 := blk_frozen BK229.out 9; have hfz14_10 := blk_frozen BK229.out 10) | ((with_reducible refine gate_callee (f := 11) rfl ?_); refine goesL_ (some 16) rfl rfl Try.func11 (by kernel_rfl) rfl #[.agg #[.string a0_0, .int .i64 a0_1, .slice A0_2 l0_2.length c0_2, .int .i64 a0_3, .int .i64 a0_4, .int .u8 a0_5, .int .i64 a0_6, .string a0_7, .slice A0_8 l0_8.length c0_8, .bool a0_9, .int .i64 a0_10]] rfl (by (try simp only [List.map_toArray, List.map_cons, List.map_nil]); first | done | rfl | (simp only [List.length_drop, List.length_take]; rfl)) ?_; (with_reducible refine (gristmillref11_Big.calls k a0_0 a0_1 _ _ l0_2 a0_3 a0_4 a0_5 a0_6 a0_7 _ _ l0_8 a0_9 a0_10 false _ ?side1 ?side2 ?side3 ?side4 A2.out).mono ?_); (case side1 => repeat (first | exact (Kd.C_below HR0_2.out HB.out) | (with_reducible refine Kd.C_alloc ?_ _) | (with_reducible refine Kd.C_drewN ?_ _) | (with_reducible refine Kd.C_drew ?_))); (case side2 => exact HC0_2.out); (case side3 => repeat (first | exact (Kd.C_below HR0_8.out HB.out) | (with_reducible refine Kd.C_alloc ?_ _) | (with_reducible refine Kd.C_drewN ?_ _) | (with_reducible refine Kd.C_drew ?_))); (case side4 => exact HC0_8.out); rintro e w15 ⟨rfl, hb⟩; refine ⟨_, rfl, ?_⟩; have n0_ := Aside0.mk (blk_below (g := gb229) (o := .cells #[.string a0_0, .int .i64 a0_1, .slice A0_2 l0_2.length c0_2, .int .i64 a0_3, .int .i64 a0_4, .int .u8 a0_5, .int .i64 a0_6, .string a0_7, .slice A0_8 l0_8.length c0_8, .bool a0_9, .int .i64 a0_10] 38 (0, 0)) (by (with_reducible repeat (first | refine blk_drewN ?_ _ | refine blk_drew ?_ | refine blk_alloc ?_ _)); exact BK229.out) hb); have n1_ := Aside0.mk (below_step (by repeat (first | (with_reducible first | exact HB.out | apply below_alloc | apply pw_below_drewN | apply below_drew1 | refine below_set ?_ GE229.out) | exact HB.out)) hb); clear BK229; clear HB; have BK229 := n0_; have HB := n1_; clear n0_ n1_; (try clear hb); (try clear hb2); (try clear hk); (try clear hi); have hcz16_0 : w15.cell? ⟨gb229, 0, none⟩ = some (.string a0_0) := (blk_cell BK229.out 0).trans rfl; have hcz16_1 : w15.cell? ⟨gb229, 1, none⟩ = some (.int .i64 a0_1) := (blk_cell BK229.out 1).trans rfl; have hcz16_2 : w15.cell? ⟨gb229, 2, none⟩ = some (.slice A0_2 l0_2.length c0_2) := (blk_cell BK229.out 2).trans rfl; have hcz16_3 : w15.cell? ⟨gb229, 3, none⟩ = some (.int .i64 a0_3) := (blk_cell BK229.out 3).trans rfl; have hcz16_4 : w15.cell? ⟨gb229, 4, none⟩ = some (.int .i64 a0_4) := (blk_cell BK229.out 4).trans rfl; have hcz16_5 : w15.cell? ⟨gb229, 5, none⟩ = some (.int .u8 a0_5) := (blk_cell BK229.out 5).trans rfl; have hcz16_6 : w15.cell? ⟨gb229, 6, none⟩ = some (.int .i64 a0_6) := (blk_cell BK229.out 6).trans rfl; have hcz16_7 : w15.cell? ⟨gb229, 7, none⟩ = some (.string a0_7) := (blk_cell BK229.out 7).trans rfl; have hcz16_8 : w15.cell? ⟨gb229, 8, none⟩ = some (.slice A0_8 l0_8.length c0_8) := (blk_cell BK229.out 8).trans rfl; have hcz16_9 : w15.cell? ⟨gb229, 9, none⟩ = some (.bool a0_9) := (blk_cell BK229.out 9).trans rfl; have hcz16_10 : w15.cell? ⟨gb229, 10, none⟩ = some (.int .i64 a0_10) := (blk_cell BK229.out 10).trans rfl; have hfz16_0 := blk_frozen BK229.out 0; have hfz16_1 := blk_frozen BK229.out 1; have hfz16_2 := blk_frozen BK229.out 2; have hfz16_3 := blk_frozen BK229.out 3; have hfz16_4 := blk_frozen BK229.out 4; have hfz16_5 := blk_frozen BK229.out 5; have hfz16_6 := blk_frozen BK229.out 6; have hfz16_7 := blk_frozen BK229.out 7; have hfz16_8 := blk_frozen BK229.out 8; have hfz16_9 := blk_frozen BK229.out 9; have hfz16_10 := blk_frozen BK229.out 10) | ((with_reducible refine gate_callee (f := 12) rfl ?_); refine goesL_ (some 20) rfl rfl Try.func12 (by kernel_rfl) rfl #[.agg #[.string a0_0, .int .i64 a0_1, .slice A0_2 l0_2.length c0_2, .int .i64 a0_3, .int .i64 a0_4, .int .u8 a0_5, .int .i64 a0_6, .string a0_7, .slice A0_8 l0_8.length c0_8, .bool a0_9, .int .i64 a0_10]] rfl (by (try simp only [List.map_toArray, List.map_cons, List.map_nil]); first | done | rfl | (simp only [List.length_drop, List.length_take]; rfl)) ?_; (with_reducible refine (check_Job.calls k a0_0 a0_1 _ _ l0_2 a0_3 a0_4 a0_5 a0_6 a0_7 _ _ l0_8 a0_9 a0_10 t232 t233 _ ?side1 ?side2 ?side3 ?side4 A9.out).mono ?_); (case side1 => repeat (first | exact (Kd.C_below HR0_2.out HB.out) | (with_reducible refine Kd.C_alloc ?_ _) | (with_reducible refine Kd.C_drewN ?_ _) | (with_reducible refine Kd.C_drew ?_))); (case side2 => exact HC0_2.out); (case side3 => repeat (first | exact (Kd.C_below HR0_8.out HB.out) | (with_reducible refine Kd.C_alloc ?_ _) | (with_reducible refine Kd.C_drewN ?_ _) | (with_reducible refine Kd.C_drew ?_))); (case side4 => exact HC0_8.out); rintro e w17 ⟨rfl, hb⟩; refine ⟨_, rfl, ?_⟩; have n0_ := Aside0.mk (blk_below (g := gb229) (o := .cells #[.string a0_0, .int .i64 a0_1, .slice A0_2 l0_2.length c0_2, .int .i64 a0_3, .int .i64 a0_4, .int .u8 a0_5, .int .i64 a0_6, .string a0_7, .slice A0_8 l0_8.length c0_8, .bool a0_9, .int .i64 a0_10] 38 (0, 0)) (by (with_reducible repeat (first | refine blk_drewN ?_ _ | refine blk_drew ?_ | refine blk_alloc ?_ _)); exact BK229.out) hb); have n1_ := Aside0.mk (below_step (by repeat (first | (with_reducible first | exact HB.out | apply below_alloc | apply pw_below_drewN | apply below_drew1 | refine below_set ?_ GE229.out) | exact HB.out)) hb); clear BK229; clear HB; have BK229 := n0_; have HB := n1_; clear n0_ n1_; (try clear hb); (try clear hb2); (try clear hk); (try clear hi)) | ((with_reducible refine gate_callee (f := 10) rfl ?_); refine goesL_ (some 24) rfl rfl Try.func10 (by kernel_rfl) rfl #[.int .i64 t233] rfl (by (try simp only [List.map_toArray, List.map_cons, List.map_nil]); first | done | rfl | (simp only [List.length_drop, List.length_take]; rfl)) ?_; (with_reducible refine (gristmilllaw12_code.calls t233 t234 _ A10.out).mono ?_); rintro e w' ⟨rfl, ⟨nd, rfl⟩⟩; refine ⟨_, rfl, ?_⟩; have hcz18_0 : w17.cell? ⟨gb229, 0, none⟩ = some (.string a0_0) := (blk_cell BK229.out 0).trans rfl; have hcz18_1 : w17.cell? ⟨gb229, 1, none⟩ = some (.int .i64 a0_1) := (blk_cell BK229.out 1).trans rfl; have hcz18_2 : w17.cell? ⟨gb229, 2, none⟩ = some (.slice A0_2 l0_2.length c0_2) := (blk_cell BK229.out 2).trans rfl; have hcz18_3 : w17.cell? ⟨gb229, 3, none⟩ = some (.int .i64 a0_3) := (blk_cell BK229.out 3).trans rfl; have hcz18_4 : w17.cell? ⟨gb229, 4, none⟩ = some (.int .i64 a0_4) := (blk_cell BK229.out 4).trans rfl; have hcz18_5 : w17.cell? ⟨gb229, 5, none⟩ = some (.int .u8 a0_5) := (blk_cell BK229.out 5).trans rfl; have hcz18_6 : w17.cell? ⟨gb229, 6, none⟩ = some (.int .i64 a0_6) := (blk_cell BK229.out 6).trans rfl; have hcz18_7 : w17.cell? ⟨gb229, 7, none⟩ = some (.string a0_7) := (blk_cell BK229.out 7).trans rfl; have hcz18_8 : w17.cell? ⟨gb229, 8, none⟩ = some (.slice A0_8 l0_8.length c0_8) := (blk_cell BK229.out 8).trans rfl; have hcz18_9 : w17.cell? ⟨gb229, 9, none⟩ = some (.bool a0_9) := (blk_cell BK229.out 9).trans rfl; have hcz18_10 : w17.cell? ⟨gb229, 10, none⟩ = some (.int .i64 a0_10) := (blk_cell BK229.out 10).trans rfl; have hfz18_0 := blk_frozen BK229.out 0; have hfz18_1 := blk_frozen BK229.out 1; have hfz18_2 := blk_frozen BK229.out 2; have hfz18_3 := blk_frozen BK229.out 3; have hfz18_4 := blk_frozen BK229.out 4; have hfz18_5 := blk_frozen BK229.out 5; have hfz18_6 := blk_frozen BK229.out 6; have hfz18_7 := blk_frozen BK229.out 7; have hfz18_8 := blk_frozen BK229.out 8; have hfz18_9 := blk_frozen BK229.out 9; have hfz18_10 := blk_frozen BK229.out 10))
      (try simp only [Act.put, List.setIfInBounds_toArray, List.set_cons_zero, List.set_cons_succ])
      go_cut [5] (fun v5 wc => ∃ (kq : Nat) (x5_11 : Int), v5 = .int .i64 x5_11 ∧ Aside0 (gristmilllaw12_CheckWhole.j0 kq x5_11 a0_0 a0_1 l0_2 a0_3 a0_4 a0_5 a0_6 a0_7 l0_8 a0_9 a0_10 = some r) ∧ Aside0 (kq ≤ k) ∧ Aside0 (wc.heap[gb229]? = some (.cells #[.string a0_0, .int .i64 a0_1, (.slice A0_2 l0_2.length c0_2), .int .i64 a0_3, .int .i64 a0_4, .int .u8 a0_5, .int .i64 a0_6, .string a0_7, (.slice A0_8 l0_8.length c0_8), .bool a0_9, .int .i64 a0_10] 38 (0, 0))) ∧ Aside0 (Below w.heap.size w wc))
      case first =>
        have H := HC12.out
        clear HC12
        by_cases c19 : a0_1 ≥ 0
        · rw [if_pos c19] at H
          have c19b0 : decide (0 ≤ a0_1) = true := decide_eq_true c19
          clear c19
          (first | rw [c19b0] | (simp only [i64_w, i32_w]; rw [c19b0]) | skip)
          have H' := Aside0.mk H
          clear H
          go_wp2
          go_meet
          case rel => exact ⟨_, (1), (by first | rfl | (simp; done) | (simp [*]; done)), H', ⟨by first | omega | exact Nat.le_refl _⟩, ⟨by (with_reducible repeat (first | refine blk_drewN ?_ _ | refine blk_drew ?_ | refine blk_alloc ?_ _)); exact BK229.out⟩, ⟨by repeat (first | (with_reducible first | exact HB.out | apply below_alloc | apply pw_below_drewN | apply below_drew1 | refine below_set ?_ GE229.out) | exact HB.out)⟩⟩
        · rw [if_neg c19] at H
          have c19b0 : decide (0 ≤ a0_1) = false := decide_eq_false c19
          clear c19
          (first | rw [c19b0] | (simp only [i64_w, i32_w]; rw [c19b0]) | skip)
          have H' := Aside0.mk H
          clear H
          go_wp2
          go_meet
          case rel => exact ⟨_, (0), (by first | rfl | (simp; done) | (simp [*]; done)), H', ⟨by first | omega | exact Nat.le_refl _⟩, ⟨by (with_reducible repeat (first | refine blk_drewN ?_ _ | refine blk_drew ?_ | refine blk_alloc ?_ _)); exact BK229.out⟩, ⟨by repeat (first | (with_reducible first | exact HB.out | apply below_alloc | apply pw_below_drewN | apply below_drew1 | refine below_set ?_ GE229.out) | exact HB.out)⟩⟩
      case rest =>
        clear HC12
        try clear c1
        try clear p2
        try clear c3
        try clear c5
        try clear c7
        try clear c10
        try clear c11
        try clear c11b0
        try clear c11b1
        try clear c12
        try clear c19
        try clear c19b0
        try clear hcz14_0
        try clear hcz14_1
        try clear hcz14_10
        try clear hcz14_2
        try clear hcz14_3
        try clear hcz14_4
        try clear hcz14_5
        try clear hcz14_6
        try clear hcz14_7
        try clear hcz14_8
        try clear hcz14_9
        try clear hcz16_0
        try clear hcz16_1
        try clear hcz16_10
        try clear hcz16_2
        try clear hcz16_3
        try clear hcz16_4
        try clear hcz16_5
        try clear hcz16_6
        try clear hcz16_7
        try clear hcz16_8
        try clear hcz16_9
        try clear hcz18_0
        try clear hcz18_1
        try clear hcz18_10
        try clear hcz18_2
        try clear hcz18_3
        try clear hcz18_4
        try clear hcz18_5
        try clear hcz18_6
        try clear hcz18_7
        try clear hcz18_8
        try clear hcz18_9
        try clear hcz6_0
        try clear hcz6_1
        try clear hcz6_10
        try clear hcz6_2
        try clear hcz6_3
        try clear hcz6_4
        try clear hcz6_5
        try clear hcz6_6
        try clear hcz6_7
        try clear hcz6_8
        try clear hcz6_9
        try clear hfz14_0
        try clear hfz14_1
        try clear hfz14_10
        try clear hfz14_2
        try clear hfz14_3
        try clear hfz14_4
        try clear hfz14_5
        try clear hfz14_6
        try clear hfz14_7
        try clear hfz14_8
        try clear hfz14_9
        try clear hfz16_0
        try clear hfz16_1
        try clear hfz16_10
        try clear hfz16_2
        try clear hfz16_3
        try clear hfz16_4
        try clear hfz16_5
        try clear hfz16_6
        try clear hfz16_7
        try clear hfz16_8
        try clear hfz16_9
        try clear hfz18_0
        try clear hfz18_1
        try clear hfz18_10
        try clear hfz18_2
        try clear hfz18_3
        try clear hfz18_4
        try clear hfz18_5
        try clear hfz18_6
        try clear hfz18_7
        try clear hfz18_8
        try clear hfz18_9
        try clear hfz6_0
        try clear hfz6_1
        try clear hfz6_10
        try clear hfz6_2
        try clear hfz6_3
        try clear hfz6_4
        try clear hfz6_5
        try clear hfz6_6
        try clear hfz6_7
        try clear hfz6_8
        try clear hfz6_9
        obtain ⟨kq, x5_11, rfl, HA, HJ11, BK229, HB⟩ := hcut
        cases kq with
        | zero => exact absurd HA.out (by simp [gristmilllaw12_CheckWhole.j0])
        | succ kj11 =>
          have H := HA.out
          clear HA
          simp only [gristmilllaw12_CheckWhole.j0] at H
          replace H := Option.bind_eq_some_iff.mp H
          obtain ⟨⟨t236, t237⟩, A200, H⟩ := H
          replace H : ((check_Kind.f kj11 a0_4 a0_5 a0_6 a0_7 l0_8 2 t236).bind fun bt238 => ((gristmilllaw12_code.f t237).bind fun t240 => ((gristmilllaw12_code.f bt238.2).bind fun t241 => (if (wrap64 (t240 + t241)) = 0 then (if bt238.1 = 1 then (if a0_9 = true then ((check_Commutes.f a0_3).bind fun t242 => (gristmilllaw12_CheckWhole.j1 kj11 x5_11 (!t242) a0_0 a0_1 l0_2 a0_3 a0_4 a0_5 a0_6 a0_7 l0_8 a0_9 a0_10)) else (gristmilllaw12_CheckWhole.j1 kj11 x5_11 false a0_0 a0_1 l0_2 a0_3 a0_4 a0_5 a0_6 a0_7 l0_8 a0_9 a0_10)) else (gristmilllaw12_CheckWhole.j1 kj11 x5_11 true a0_0 a0_1 l0_2 a0_3 a0_4 a0_5 a0_6 a0_7 l0_8 a0_9 a0_10)) else (gristmilllaw12_CheckWhole.j1 kj11 x5_11 true a0_0 a0_1 l0_2 a0_3 a0_4 a0_5 a0_6 a0_7 l0_8 a0_9 a0_10))))) = some r := H
          have A20 := Aside0.mk A200
          clear A200
          replace H := Option.bind_eq_some_iff.mp H
          obtain ⟨⟨t238, t239⟩, A210, H⟩ := H
          replace H : ((gristmilllaw12_code.f t237).bind fun t240 => ((gristmilllaw12_code.f t239).bind fun t241 => (if (wrap64 (t240 + t241)) = 0 then (if t238 = 1 then (if a0_9 = true then ((check_Commutes.f a0_3).bind fun t242 => (gristmilllaw12_CheckWhole.j1 kj11 x5_11 (!t242) a0_0 a0_1 l0_2 a0_3 a0_4 a0_5 a0_6 a0_7 l0_8 a0_9 a0_10)) else (gristmilllaw12_CheckWhole.j1 kj11 x5_11 false a0_0 a0_1 l0_2 a0_3 a0_4 a0_5 a0_6 a0_7 l0_8 a0_9 a0_10)) else (gristmilllaw12_CheckWhole.j1 kj11 x5_11 true a0_0 a0_1 l0_2 a0_3 a0_4 a0_5 a0_6 a0_7 l0_8 a0_9 a0_10)) else (gristmilllaw12_CheckWhole.j1 kj11 x5_11 true a0_0 a0_1 l0_2 a0_3 a0_4 a0_5 a0_6 a0_7 l0_8 a0_9 a0_10)))) = some r := H
          have A21 := Aside0.mk A210
          clear A210
          have HC22 := Aside0.mk H
          clear H
          have hcz23_0 : wc.cell? ⟨gb229, 0, none⟩ = some (.string a0_0) := (blk_cell BK229.out 0).trans rfl
          have hcz23_1 : wc.cell? ⟨gb229, 1, none⟩ = some (.int .i64 a0_1) := (blk_cell BK229.out 1).trans rfl
          have hcz23_2 : wc.cell? ⟨gb229, 2, none⟩ = some (.slice A0_2 l0_2.length c0_2) := (blk_cell BK229.out 2).trans rfl
          have hcz23_3 : wc.cell? ⟨gb229, 3, none⟩ = some (.int .i64 a0_3) := (blk_cell BK229.out 3).trans rfl
          have hcz23_4 : wc.cell? ⟨gb229, 4, none⟩ = some (.int .i64 a0_4) := (blk_cell BK229.out 4).trans rfl
          have hcz23_5 : wc.cell? ⟨gb229, 5, none⟩ = some (.int .u8 a0_5) := (blk_cell BK229.out 5).trans rfl
          have hcz23_6 : wc.cell? ⟨gb229, 6, none⟩ = some (.int .i64 a0_6) := (blk_cell BK229.out 6).trans rfl
          have hcz23_7 : wc.cell? ⟨gb229, 7, none⟩ = some (.string a0_7) := (blk_cell BK229.out 7).trans rfl
          have hcz23_8 : wc.cell? ⟨gb229, 8, none⟩ = some (.slice A0_8 l0_8.length c0_8) := (blk_cell BK229.out 8).trans rfl
          have hcz23_9 : wc.cell? ⟨gb229, 9, none⟩ = some (.bool a0_9) := (blk_cell BK229.out 9).trans rfl
          have hcz23_10 : wc.cell? ⟨gb229, 10, none⟩ = some (.int .i64 a0_10) := (blk_cell BK229.out 10).trans rfl
          have hfz23_0 := blk_frozen BK229.out 0
          have hfz23_1 := blk_frozen BK229.out 1
          have hfz23_2 := blk_frozen BK229.out 2
          have hfz23_3 := blk_frozen BK229.out 3
          have hfz23_4 := blk_frozen BK229.out 4
          have hfz23_5 := blk_frozen BK229.out 5
          have hfz23_6 := blk_frozen BK229.out 6
          have hfz23_7 := blk_frozen BK229.out 7
          have hfz23_8 := blk_frozen BK229.out 8
          have hfz23_9 := blk_frozen BK229.out 9
          have hfz23_10 := blk_frozen BK229.out 10
          go_upto_region 11 with (first | ((with_reducible refine gate_callee (f := 14) rfl ?_); refine goesL_ (some 32) rfl rfl Try.func14 (by kernel_rfl) rfl #[.agg #[.string a0_0, .int .i64 a0_1, .slice A0_2 l0_2.length c0_2, .int .i64 a0_3, .int .i64 a0_4, .int .u8 a0_5, .int .i64 a0_6, .string a0_7, .slice A0_8 l0_8.length c0_8, .bool a0_9, .int .i64 a0_10]] rfl (by (try simp only [List.map_toArray, List.map_cons, List.map_nil]); first | done | rfl | (simp only [List.length_drop, List.length_take]; rfl)) ?_; (with_reducible refine (check_Acc.calls kj11 a0_0 a0_1 _ _ l0_2 a0_3 a0_4 a0_5 a0_6 a0_7 _ _ l0_8 a0_9 a0_10 t236 t237 _ ?side1 ?side2 ?side3 ?side4 A20.out).mono ?_); (case side1 => repeat (first | exact (Kd.C_below HR0_2.out HB.out) | (with_reducible refine Kd.C_alloc ?_ _) | (with_reducible refine Kd.C_drewN ?_ _) | (with_reducible refine Kd.C_drew ?_))); (case side2 => exact HC0_2.out); (case side3 => repeat (first | exact (Kd.C_below HR0_8.out HB.out) | (with_reducible refine Kd.C_alloc ?_ _) | (with_reducible refine Kd.C_drewN ?_ _) | (with_reducible refine Kd.C_drew ?_))); (case side4 => exact HC0_8.out); rintro e w24 ⟨rfl, hb⟩; refine ⟨_, rfl, ?_⟩; have n0_ := Aside0.mk (blk_below (g := gb229) (o := .cells #[.string a0_0, .int .i64 a0_1, .slice A0_2 l0_2.length c0_2, .int .i64 a0_3, .int .i64 a0_4, .int .u8 a0_5, .int .i64 a0_6, .string a0_7, .slice A0_8 l0_8.length c0_8, .bool a0_9, .int .i64 a0_10] 38 (0, 0)) (by (with_reducible repeat (first | refine blk_drewN ?_ _ | refine blk_drew ?_ | refine blk_alloc ?_ _)); exact BK229.out) hb); have n1_ := Aside0.mk (below_step (by repeat (first | (with_reducible first | exact HB.out | apply below_alloc | apply pw_below_drewN | apply below_drew1 | refine below_set ?_ GE229.out) | exact HB.out)) hb); clear BK229; clear HB; have BK229 := n0_; have HB := n1_; clear n0_ n1_; (try clear hb); (try clear hb2); (try clear hk); (try clear hi); have hcz25_0 : w24.cell? ⟨gb229, 0, none⟩ = some (.string a0_0) := (blk_cell BK229.out 0).trans rfl; have hcz25_1 : w24.cell? ⟨gb229, 1, none⟩ = some (.int .i64 a0_1) := (blk_cell BK229.out 1).trans rfl; have hcz25_2 : w24.cell? ⟨gb229, 2, none⟩ = some (.slice A0_2 l0_2.length c0_2) := (blk_cell BK229.out 2).trans rfl; have hcz25_3 : w24.cell? ⟨gb229, 3, none⟩ = some (.int .i64 a0_3) := (blk_cell BK229.out 3).trans rfl; have hcz25_4 : w24.cell? ⟨gb229, 4, none⟩ = some (.int .i64 a0_4) := (blk_cell BK229.out 4).trans rfl; have hcz25_5 : w24.cell? ⟨gb229, 5, none⟩ = some (.int .u8 a0_5) := (blk_cell BK229.out 5).trans rfl; have hcz25_6 : w24.cell? ⟨gb229, 6, none⟩ = some (.int .i64 a0_6) := (blk_cell BK229.out 6).trans rfl; have hcz25_7 : w24.cell? ⟨gb229, 7, none⟩ = some (.string a0_7) := (blk_cell BK229.out 7).trans rfl; have hcz25_8 : w24.cell? ⟨gb229, 8, none⟩ = some (.slice A0_8 l0_8.length c0_8) := (blk_cell BK229.out 8).trans rfl; have hcz25_9 : w24.cell? ⟨gb229, 9, none⟩ = some (.bool a0_9) := (blk_cell BK229.out 9).trans rfl; have hcz25_10 : w24.cell? ⟨gb229, 10, none⟩ = some (.int .i64 a0_10) := (blk_cell BK229.out 10).trans rfl; have hfz25_0 := blk_frozen BK229.out 0; have hfz25_1 := blk_frozen BK229.out 1; have hfz25_2 := blk_frozen BK229.out 2; have hfz25_3 := blk_frozen BK229.out 3; have hfz25_4 := blk_frozen BK229.out 4; have hfz25_5 := blk_frozen BK229.out 5; have hfz25_6 := blk_frozen BK229.out 6; have hfz25_7 := blk_frozen BK229.out 7; have hfz25_8 := blk_frozen BK229.out 8; have hfz25_9 := blk_frozen BK229.out 9; have hfz25_10 := blk_frozen BK229.out 10) | ((with_reducible refine gate_callee (f := 8) rfl ?_); refine goesL_ (some 39) rfl rfl Try.func8 (by kernel_rfl) rfl #[.agg #[.int .i64 a0_4, .int .u8 a0_5, .int .i64 a0_6, .string a0_7, .slice A0_8 l0_8.length c0_8], .int .i64 2, .int .u8 t236] rfl (by (try simp only [List.map_toArray, List.map_cons, List.map_nil]); first | done | rfl | (simp only [List.length_drop, List.length_take]; rfl)) ?_; (with_reducible refine (check_Kind.calls kj11 a0_4 a0_5 a0_6 a0_7 _ _ l0_8 2 t236 t238 t239 _ ?side1 ?side2 A21.out).mono ?_); (case side1 => repeat (first | exact (Kd.C_below HR0_8.out HB.out) | (with_reducible refine Kd.C_alloc ?_ _) | (with_reducible refine Kd.C_drewN ?_ _) | (with_reducible refine Kd.C_drew ?_))); (case side2 => exact HC0_8.out); rintro e w26 ⟨rfl, hb⟩; refine ⟨_, rfl, ?_⟩; have n0_ := Aside0.mk (blk_below (g := gb229) (o := .cells #[.string a0_0, .int .i64 a0_1, .slice A0_2 l0_2.length c0_2, .int .i64 a0_3, .int .i64 a0_4, .int .u8 a0_5, .int .i64 a0_6, .string a0_7, .slice A0_8 l0_8.length c0_8, .bool a0_9, .int .i64 a0_10] 38 (0, 0)) (by (with_reducible repeat (first | refine blk_drewN ?_ _ | refine blk_drew ?_ | refine blk_alloc ?_ _)); exact BK229.out) hb); have n1_ := Aside0.mk (below_step (by repeat (first | (with_reducible first | exact HB.out | apply below_alloc | apply pw_below_drewN | apply below_drew1 | refine below_set ?_ GE229.out) | exact HB.out)) hb); clear BK229; clear HB; have BK229 := n0_; have HB := n1_; clear n0_ n1_; (try clear hb); (try clear hb2); (try clear hk); (try clear hi)))
          (try simp only [Act.put, List.setIfInBounds_toArray, List.set_cons_zero, List.set_cons_succ])
          go_cut [61] (fun v61 wc => ∃ (kq : Nat) (x61_21 : Bool), v61 = .bool x61_21 ∧ Aside0 (gristmilllaw12_CheckWhole.j1 kq x5_11 x61_21 a0_0 a0_1 l0_2 a0_3 a0_4 a0_5 a0_6 a0_7 l0_8 a0_9 a0_10 = some r) ∧ Aside0 (kq ≤ kj11) ∧ Aside0 (wc.heap[gb229]? = some (.cells #[.string a0_0, .int .i64 a0_1, (.slice A0_2 l0_2.length c0_2), .int .i64 a0_3, .int .i64 a0_4, .int .u8 a0_5, .int .i64 a0_6, .string a0_7, (.slice A0_8 l0_8.length c0_8), .bool a0_9, .int .i64 a0_10] 38 (0, 0))) ∧ Aside0 (Below w.heap.size w wc))
          case first =>
            have H := HC22.out
            clear HC22
            replace H := Option.bind_eq_some_iff.mp H
            obtain ⟨t240, A270, H⟩ := H
            replace H : ((gristmilllaw12_code.f t239).bind fun t241 => (if (wrap64 (t240 + t241)) = 0 then (if t238 = 1 then (if a0_9 = true then ((check_Commutes.f a0_3).bind fun t242 => (gristmilllaw12_CheckWhole.j1 kj11 x5_11 (!t242) a0_0 a0_1 l0_2 a0_3 a0_4 a0_5 a0_6 a0_7 l0_8 a0_9 a0_10)) else (gristmilllaw12_CheckWhole.j1 kj11 x5_11 false a0_0 a0_1 l0_2 a0_3 a0_4 a0_5 a0_6 a0_7 l0_8 a0_9 a0_10)) else (gristmilllaw12_CheckWhole.j1 kj11 x5_11 true a0_0 a0_1 l0_2 a0_3 a0_4 a0_5 a0_6 a0_7 l0_8 a0_9 a0_10)) else (gristmilllaw12_CheckWhole.j1 kj11 x5_11 true a0_0 a0_1 l0_2 a0_3 a0_4 a0_5 a0_6 a0_7 l0_8 a0_9 a0_10))) = some r := H
            have A27 := Aside0.mk A270
            clear A270
            replace H := Option.bind_eq_some_iff.mp H
            obtain ⟨t241, A280, H⟩ := H
            replace H : (if (wrap64 (t240 + t241)) = 0 then (if t238 = 1 then (if a0_9 = true then ((check_Commutes.f a0_3).bind fun t242 => (gristmilllaw12_CheckWhole.j1 kj11 x5_11 (!t242) a0_0 a0_1 l0_2 a0_3 a0_4 a0_5 a0_6 a0_7 l0_8 a0_9 a0_10)) else (gristmilllaw12_CheckWhole.j1 kj11 x5_11 false a0_0 a0_1 l0_2 a0_3 a0_4 a0_5 a0_6 a0_7 l0_8 a0_9 a0_10)) else (gristmilllaw12_CheckWhole.j1 kj11 x5_11 true a0_0 a0_1 l0_2 a0_3 a0_4 a0_5 a0_6 a0_7 l0_8 a0_9 a0_10)) else (gristmilllaw12_CheckWhole.j1 kj11 x5_11 true a0_0 a0_1 l0_2 a0_3 a0_4 a0_5 a0_6 a0_7 l0_8 a0_9 a0_10)) = some r := H
            have A28 := Aside0.mk A280
            clear A280
            by_cases c29 : (wrap64 (t240 + t241)) = 0
            · rw [if_pos c29] at H
              have c29b0 : ((wrap64 (t240 + t241)) == 0) = true := beq_iff_eq.mpr c29
              have c29b1 : ((wrap64 (t240 + t241)) != 0) = false := bne_eq_false_iff_eq.mpr c29
              clear c29
              (first | rw [c29b0] | (simp only [i64_w, i32_w]; rw [c29b0]) | skip)
              by_cases c30 : t238 = 1
              · rw [if_pos c30] at H
                have c30b0 : (t238 == 1) = true := beq_iff_eq.mpr c30
                have c30b1 : (t238 != 1) = false := bne_eq_false_iff_eq.mpr c30
                clear c30
                by_cases c31 : a0_9 = true
                · subst c31
                  have H1 : ((check_Commutes.f a0_3).bind fun t242 => (gristmilllaw12_CheckWhole.j1 kj11 x5_11 (!t242) a0_0 a0_1 l0_2 a0_3 a0_4 a0_5 a0_6 a0_7 l0_8 true a0_10)) = some r := by rw [if_pos rfl] at H; exact H
                  clear H
                  have H := H1
                  clear H1
                  replace H := Option.bind_eq_some_iff.mp H
                  obtain ⟨t242, A320, H⟩ := H
                  replace H : (gristmilllaw12_CheckWhole.j1 kj11 x5_11 (!t242) a0_0 a0_1 l0_2 a0_3 a0_4 a0_5 a0_6 a0_7 l0_8 true a0_10) = some r := H
                  have A32 := Aside0.mk A320
                  clear A320
                  have H' := Aside0.mk H
                  clear H
                  go_wp2_with (first | ((with_reducible refine gate_callee (f := 10) rfl ?_); refine goesL_ (some 43) rfl rfl Try.func10 (by kernel_rfl) rfl #[.int .i64 t237] rfl (by (try simp only [List.map_toArray, List.map_cons, List.map_nil]); first | done | rfl | (simp only [List.length_drop, List.length_take]; rfl)) ?_; (with_reducible refine (gristmilllaw12_code.calls t237 t240 _ A27.out).mono ?_); rintro e w' ⟨rfl, ⟨nd, rfl⟩⟩; refine ⟨_, rfl, ?_⟩) | ((with_reducible refine gate_callee (f := 10) rfl ?_); refine goesL_ (some 45) rfl rfl Try.func10 (by kernel_rfl) rfl #[.int .i64 t239] rfl (by (try simp only [List.map_toArray, List.map_cons, List.map_nil]); first | done | rfl | (simp only [List.length_drop, List.length_take]; rfl)) ?_; (with_reducible refine (gristmilllaw12_code.calls t239 t241 _ A28.out).mono ?_); rintro e w' ⟨rfl, ⟨nd, rfl⟩⟩; refine ⟨_, rfl, ?_⟩; have hcz33_0 : w26.cell? ⟨gb229, 0, none⟩ = some (.string a0_0) := (blk_cell BK229.out 0).trans rfl; have hcz33_1 : w26.cell? ⟨gb229, 1, none⟩ = some (.int .i64 a0_1) := (blk_cell BK229.out 1).trans rfl; have hcz33_2 : w26.cell? ⟨gb229, 2, none⟩ = some (.slice A0_2 l0_2.length c0_2) := (blk_cell BK229.out 2).trans rfl; have hcz33_3 : w26.cell? ⟨gb229, 3, none⟩ = some (.int .i64 a0_3) := (blk_cell BK229.out 3).trans rfl; have hcz33_4 : w26.cell? ⟨gb229, 4, none⟩ = some (.int .i64 a0_4) := (blk_cell BK229.out 4).trans rfl; have hcz33_5 : w26.cell? ⟨gb229, 5, none⟩ = some (.int .u8 a0_5) := (blk_cell BK229.out 5).trans rfl; have hcz33_6 : w26.cell? ⟨gb229, 6, none⟩ = some (.int .i64 a0_6) := (blk_cell BK229.out 6).trans rfl; have hcz33_7 : w26.cell? ⟨gb229, 7, none⟩ = some (.string a0_7) := (blk_cell BK229.out 7).trans rfl; have hcz33_8 : w26.cell? ⟨gb229, 8, none⟩ = some (.slice A0_8 l0_8.length c0_8) := (blk_cell BK229.out 8).trans rfl; have hcz33_9 : w26.cell? ⟨gb229, 9, none⟩ = some (.bool true) := (blk_cell BK229.out 9).trans rfl; have hcz33_10 : w26.cell? ⟨gb229, 10, none⟩ = some (.int .i64 a0_10) := (blk_cell BK229.out 10).trans rfl; have hfz33_0 := blk_frozen BK229.out 0; have hfz33_1 := blk_frozen BK229.out 1; have hfz33_2 := blk_frozen BK229.out 2; have hfz33_3 := blk_frozen BK229.out 3; have hfz33_4 := blk_frozen BK229.out 4; have hfz33_5 := blk_frozen BK229.out 5; have hfz33_6 := blk_frozen BK229.out 6; have hfz33_7 := blk_frozen BK229.out 7; have hfz33_8 := blk_frozen BK229.out 8; have hfz33_9 := blk_frozen BK229.out 9; have hfz33_10 := blk_frozen BK229.out 10) | (go_at_call 16; (with_reducible refine (check_Commutes.calls a0_3 t242 _ A32.out).mono ?_); rintro e w' ⟨rfl, ⟨nd, rfl⟩⟩))
                  go_meet
                  case rel => exact ⟨_, (!t242), (by first | rfl | (simp; done) | (simp [*]; done)), H', ⟨by have := HJ11.out; first | omega | exact Nat.le_refl _⟩, ⟨by (with_reducible repeat (first | refine blk_drewN ?_ _ | refine blk_drew ?_ | refine blk_alloc ?_ _)); exact BK229.out⟩, ⟨by repeat (first | (with_reducible first | exact HB.out | apply below_alloc | apply pw_below_drewN | apply below_drew1 | refine below_set ?_ GE229.out) | exact HB.out)⟩⟩
                · replace c31 := Bool.eq_false_iff.mpr c31
                  subst c31
                  have H1 : (gristmilllaw12_CheckWhole.j1 kj11 x5_11 false a0_0 a0_1 l0_2 a0_3 a0_4 a0_5 a0_6 a0_7 l0_8 false a0_10) = some r := by rw [if_neg (show ¬ (false = true) by decide)] at H; exact H
                  clear H
                  have H := H1
                  clear H1
                  have H' := Aside0.mk H
                  clear H
                  go_wp2_with (first | ((with_reducible refine gate_callee (f := 10) rfl ?_); refine goesL_ (some 43) rfl rfl Try.func10 (by kernel_rfl) rfl #[.int .i64 t237] rfl (by (try simp only [List.map_toArray, List.map_cons, List.map_nil]); first | done | rfl | (simp only [List.length_drop, List.length_take]; rfl)) ?_; (with_reducible refine (gristmilllaw12_code.calls t237 t240 _ A27.out).mono ?_); rintro e w' ⟨rfl, ⟨nd, rfl⟩⟩; refine ⟨_, rfl, ?_⟩) | ((with_reducible refine gate_callee (f := 10) rfl ?_); refine goesL_ (some 45) rfl rfl Try.func10 (by kernel_rfl) rfl #[.int .i64 t239] rfl (by (try simp only [List.map_toArray, List.map_cons, List.map_nil]); first | done | rfl | (simp only [List.length_drop, List.length_take]; rfl)) ?_; (with_reducible refine (gristmilllaw12_code.calls t239 t241 _ A28.out).mono ?_); rintro e w' ⟨rfl, ⟨nd, rfl⟩⟩; refine ⟨_, rfl, ?_⟩; have hcz34_0 : w26.cell? ⟨gb229, 0, none⟩ = some (.string a0_0) := (blk_cell BK229.out 0).trans rfl; have hcz34_1 : w26.cell? ⟨gb229, 1, none⟩ = some (.int .i64 a0_1) := (blk_cell BK229.out 1).trans rfl; have hcz34_2 : w26.cell? ⟨gb229, 2, none⟩ = some (.slice A0_2 l0_2.length c0_2) := (blk_cell BK229.out 2).trans rfl; have hcz34_3 : w26.cell? ⟨gb229, 3, none⟩ = some (.int .i64 a0_3) := (blk_cell BK229.out 3).trans rfl; have hcz34_4 : w26.cell? ⟨gb229, 4, none⟩ = some (.int .i64 a0_4) := (blk_cell BK229.out 4).trans rfl; have hcz34_5 : w26.cell? ⟨gb229, 5, none⟩ = some (.int .u8 a0_5) := (blk_cell BK229.out 5).trans rfl; have hcz34_6 : w26.cell? ⟨gb229, 6, none⟩ = some (.int .i64 a0_6) := (blk_cell BK229.out 6).trans rfl; have hcz34_7 : w26.cell? ⟨gb229, 7, none⟩ = some (.string a0_7) := (blk_cell BK229.out 7).trans rfl; have hcz34_8 : w26.cell? ⟨gb229, 8, none⟩ = some (.slice A0_8 l0_8.length c0_8) := (blk_cell BK229.out 8).trans rfl; have hcz34_9 : w26.cell? ⟨gb229, 9, none⟩ = some (.bool false) := (blk_cell BK229.out 9).trans rfl; have hcz34_10 : w26.cell? ⟨gb229, 10, none⟩ = some (.int .i64 a0_10) := (blk_cell BK229.out 10).trans rfl; have hfz34_0 := blk_frozen BK229.out 0; have hfz34_1 := blk_frozen BK229.out 1; have hfz34_2 := blk_frozen BK229.out 2; have hfz34_3 := blk_frozen BK229.out 3; have hfz34_4 := blk_frozen BK229.out 4; have hfz34_5 := blk_frozen BK229.out 5; have hfz34_6 := blk_frozen BK229.out 6; have hfz34_7 := blk_frozen BK229.out 7; have hfz34_8 := blk_frozen BK229.out 8; have hfz34_9 := blk_frozen BK229.out 9; have hfz34_10 := blk_frozen BK229.out 10))
                  go_meet
                  case rel => exact ⟨_, (false), (by first | rfl | (simp; done) | (simp [*]; done)), H', ⟨by have := HJ11.out; first | omega | exact Nat.le_refl _⟩, ⟨by (with_reducible repeat (first | refine blk_drewN ?_ _ | refine blk_drew ?_ | refine blk_alloc ?_ _)); exact BK229.out⟩, ⟨by repeat (first | (with_reducible first | exact HB.out | apply below_alloc | apply pw_below_drewN | apply below_drew1 | refine below_set ?_ GE229.out) | exact HB.out)⟩⟩
              · rw [if_neg c30] at H
                have c30b0 : (t238 == 1) = false := beq_eq_false_iff_ne.mpr c30
                have c30b1 : (t238 != 1) = true := bne_iff_ne.mpr c30
                have H' := Aside0.mk H
                clear H
                go_wp2_with (first | ((with_reducible refine gate_callee (f := 10) rfl ?_); refine goesL_ (some 43) rfl rfl Try.func10 (by kernel_rfl) rfl #[.int .i64 t237] rfl (by (try simp only [List.map_toArray, List.map_cons, List.map_nil]); first | done | rfl | (simp only [List.length_drop, List.length_take]; rfl)) ?_; (with_reducible refine (gristmilllaw12_code.calls t237 t240 _ A27.out).mono ?_); rintro e w' ⟨rfl, ⟨nd, rfl⟩⟩; refine ⟨_, rfl, ?_⟩) | ((with_reducible refine gate_callee (f := 10) rfl ?_); refine goesL_ (some 45) rfl rfl Try.func10 (by kernel_rfl) rfl #[.int .i64 t239] rfl (by (try simp only [List.map_toArray, List.map_cons, List.map_nil]); first | done | rfl | (simp only [List.length_drop, List.length_take]; rfl)) ?_; (with_reducible refine (gristmilllaw12_code.calls t239 t241 _ A28.out).mono ?_); rintro e w' ⟨rfl, ⟨nd, rfl⟩⟩; refine ⟨_, rfl, ?_⟩))
                go_meet
                case rel => exact ⟨_, (true), (by first | rfl | (simp; done) | (simp [*]; done)), H', ⟨by have := HJ11.out; first | omega | exact Nat.le_refl _⟩, ⟨by (with_reducible repeat (first | refine blk_drewN ?_ _ | refine blk_drew ?_ | refine blk_alloc ?_ _)); exact BK229.out⟩, ⟨by repeat (first | (with_reducible first | exact HB.out | apply below_alloc | apply pw_below_drewN | apply below_drew1 | refine below_set ?_ GE229.out) | exact HB.out)⟩⟩
            · rw [if_neg c29] at H
              have c29b0 : ((wrap64 (t240 + t241)) == 0) = false := beq_eq_false_iff_ne.mpr c29
              have c29b1 : ((wrap64 (t240 + t241)) != 0) = true := bne_iff_ne.mpr c29
              (first | rw [c29b0] | (simp only [i64_w, i32_w]; rw [c29b0]) | skip)
              have H' := Aside0.mk H
              clear H
              go_wp2_with (first | ((with_reducible refine gate_callee (f := 10) rfl ?_); refine goesL_ (some 43) rfl rfl Try.func10 (by kernel_rfl) rfl #[.int .i64 t237] rfl (by (try simp only [List.map_toArray, List.map_cons, List.map_nil]); first | done | rfl | (simp only [List.length_drop, List.length_take]; rfl)) ?_; (with_reducible refine (gristmilllaw12_code.calls t237 t240 _ A27.out).mono ?_); rintro e w' ⟨rfl, ⟨nd, rfl⟩⟩; refine ⟨_, rfl, ?_⟩) | ((with_reducible refine gate_callee (f := 10) rfl ?_); refine goesL_ (some 45) rfl rfl Try.func10 (by kernel_rfl) rfl #[.int .i64 t239] rfl (by (try simp only [List.map_toArray, List.map_cons, List.map_nil]); first | done | rfl | (simp only [List.length_drop, List.length_take]; rfl)) ?_; (with_reducible refine (gristmilllaw12_code.calls t239 t241 _ A28.out).mono ?_); rintro e w' ⟨rfl, ⟨nd, rfl⟩⟩; refine ⟨_, rfl, ?_⟩))
              go_meet
              case rel => exact ⟨_, (true), (by first | rfl | (simp; done) | (simp [*]; done)), H', ⟨by have := HJ11.out; first | omega | exact Nat.le_refl _⟩, ⟨by (with_reducible repeat (first | refine blk_drewN ?_ _ | refine blk_drew ?_ | refine blk_alloc ?_ _)); exact BK229.out⟩, ⟨by repeat (first | (with_reducible first | exact HB.out | apply below_alloc | apply pw_below_drewN | apply below_drew1 | refine below_set ?_ GE229.out) | exact HB.out)⟩⟩
          case rest =>
            clear HC22
            try clear c1
            try clear c2
            try clear p2
            try clear c3
            try clear c5
            try clear p6
            try clear c7
            try clear c8
            try clear c10
            try clear c11
            try clear c11b0
            try clear c11b1
            try clear c12
            try clear c14
            try clear c19
            try clear c19b0
            try clear c29
            try clear c29b0
            try clear c29b1
            try clear c30
            try clear c30b0
            try clear c30b1
            try clear c31
            try clear hcz14_0
            try clear hcz14_1
            try clear hcz14_10
            try clear hcz14_2
            try clear hcz14_3
            try clear hcz14_4
            try clear hcz14_5
            try clear hcz14_6
            try clear hcz14_7
            try clear hcz14_8
            try clear hcz14_9
            try clear hcz16_0
            try clear hcz16_1
            try clear hcz16_10
            try clear hcz16_2
            try clear hcz16_3
            try clear hcz16_4
            try clear hcz16_5
            try clear hcz16_6
            try clear hcz16_7
            try clear hcz16_8
            try clear hcz16_9
            try clear hcz18_0
            try clear hcz18_1
            try clear hcz18_10
            try clear hcz18_2
            try clear hcz18_3
            try clear hcz18_4
            try clear hcz18_5
            try clear hcz18_6
            try clear hcz18_7
            try clear hcz18_8
            try clear hcz18_9
            try clear hcz23_0
            try clear hcz23_1
            try clear hcz23_10
            try clear hcz23_2
            try clear hcz23_3
            try clear hcz23_4
            try clear hcz23_5
            try clear hcz23_6
            try clear hcz23_7
            try clear hcz23_8
            try clear hcz23_9
            try clear hcz25_0
            try clear hcz25_1
            try clear hcz25_10
            try clear hcz25_2
            try clear hcz25_3
            try clear hcz25_4
            try clear hcz25_5
            try clear hcz25_6
            try clear hcz25_7
            try clear hcz25_8
            try clear hcz25_9
            try clear hcz33_0
            try clear hcz33_1
            try clear hcz33_10
            try clear hcz33_2
            try clear hcz33_3
            try clear hcz33_4
            try clear hcz33_5
            try clear hcz33_6
            try clear hcz33_7
            try clear hcz33_8
            try clear hcz33_9
            try clear hcz34_0
            try clear hcz34_1
            try clear hcz34_10
            try clear hcz34_2
            try clear hcz34_3
            try clear hcz34_4
            try clear hcz34_5
            try clear hcz34_6
            try clear hcz34_7
            try clear hcz34_8
            try clear hcz34_9
            try clear hcz6_0
            try clear hcz6_1
            try clear hcz6_10
            try clear hcz6_2
            try clear hcz6_3
            try clear hcz6_4
            try clear hcz6_5
            try clear hcz6_6
            try clear hcz6_7
            try clear hcz6_8
            try clear hcz6_9
            try clear hfz14_0
            try clear hfz14_1
            try clear hfz14_10
            try clear hfz14_2
            try clear hfz14_3
            try clear hfz14_4
            try clear hfz14_5
            try clear hfz14_6
            try clear hfz14_7
            try clear hfz14_8
            try clear hfz14_9
            try clear hfz16_0
            try clear hfz16_1
            try clear hfz16_10
            try clear hfz16_2
            try clear hfz16_3
            try clear hfz16_4
            try clear hfz16_5
            try clear hfz16_6
            try clear hfz16_7
            try clear hfz16_8
            try clear hfz16_9
            try clear hfz18_0
            try clear hfz18_1
            try clear hfz18_10
            try clear hfz18_2
            try clear hfz18_3
            try clear hfz18_4
            try clear hfz18_5
            try clear hfz18_6
            try clear hfz18_7
            try clear hfz18_8
            try clear hfz18_9
            try clear hfz23_0
            try clear hfz23_1
            try clear hfz23_10
            try clear hfz23_2
            try clear hfz23_3
            try clear hfz23_4
            try clear hfz23_5
            try clear hfz23_6
            try clear hfz23_7
            try clear hfz23_8
            try clear hfz23_9
            try clear hfz25_0
            try clear hfz25_1
            try clear hfz25_10
            try clear hfz25_2
            try clear hfz25_3
            try clear hfz25_4
            try clear hfz25_5
            try clear hfz25_6
            try clear hfz25_7
            try clear hfz25_8
            try clear hfz25_9
            try clear hfz33_0
            try clear hfz33_1
            try clear hfz33_10
            try clear hfz33_2
            try clear hfz33_3
            try clear hfz33_4
            try clear hfz33_5
            try clear hfz33_6
            try clear hfz33_7
            try clear hfz33_8
            try clear hfz33_9
            try clear hfz34_0
            try clear hfz34_1
            try clear hfz34_10
            try clear hfz34_2
            try clear hfz34_3
            try clear hfz34_4
            try clear hfz34_5
            try clear hfz34_6
            try clear hfz34_7
            try clear hfz34_8
            try clear hfz34_9
            try clear hfz6_0
            try clear hfz6_1
            try clear hfz6_10
            try clear hfz6_2
            try clear hfz6_3
            try clear hfz6_4
            try clear hfz6_5
            try clear hfz6_6
            try clear hfz6_7
            try clear hfz6_8
            try clear hfz6_9
            try clear p2
            obtain ⟨kq, x61_21, rfl, HA, HJ21, BK229, HB⟩ := hcut
            cases kq with
            | zero => exact absurd HA.out (by simp [gristmilllaw12_CheckWhole.j1])
            | succ kj21 =>
              have H := HA.out
              clear HA
              simp only [gristmilllaw12_CheckWhole.j1] at H
              by_cases c35 : x61_21 = true
              · subst c35
                have H1 : (some false) = some r := by rw [if_pos rfl] at H; exact H
                clear H
                have H := H1
                clear H1
                obtain rfl := Option.some.inj H
                go_wp2
                go_ret
                exact ⟨by first | rfl | (simp [errW_none, errW_some] <;> rfl) | (simp [*, errW_none, errW_some] <;> rfl), by repeat (first | (with_reducible first | exact HB.out | apply below_alloc | apply pw_below_drewN | apply below_drew1 | refine below_set ?_ GE229.out) | exact HB.out)⟩
              · replace c35 := Bool.eq_false_iff.mpr c35
                subst c35
                have H1 : (gristmilllaw12_CheckWhole.l0 kj21 x5_11 0 a0_0 a0_1 l0_2 a0_3 a0_4 a0_5 a0_6 a0_7 l0_8 a0_9 a0_10) = some r := by rw [if_neg (show ¬ (false = true) by decide)] at H; exact H
                clear H
                have H := H1
                clear H1
                have H' := Aside0.mk H
                clear H
                go_wp2
                go_loopg [10] kj21 (fun kq v10 w' => ∃ (x10_3 : Int), v10 = .int .i64 x10_3 ∧ Aside0 (gristmilllaw12_CheckWhole.l0 kq x5_11 x10_3 a0_0 a0_1 l0_2 a0_3 a0_4 a0_5 a0_6 a0_7 l0_8 a0_9 a0_10 = some r) ∧ Aside0 (kq ≤ kj21) ∧ Aside0 (w'.heap[gb229]? = some (.cells #[.string a0_0, .int .i64 a0_1, (.slice A0_2 l0_2.length c0_2), .int .i64 a0_3, .int .i64 a0_4, .int .u8 a0_5, .int .i64 a0_6, .string a0_7, (.slice A0_8 l0_8.length c0_8), .bool a0_9, .int .i64 a0_10] 38 (0, 0))) ∧ Aside0 (Below w.heap.size w w'))
                case atStart => exact ⟨(0), (by first | rfl | (simp; done) | (simp [*]; done)), H', ⟨Nat.le_refl _⟩, ⟨by (with_reducible repeat (first | refine blk_drewN ?_ _ | refine blk_drew ?_ | refine blk_alloc ?_ _)); exact BK229.out⟩, ⟨by repeat (first | (with_reducible first | exact HB.out | apply below_alloc | apply pw_below_drewN | apply below_drew1 | refine below_set ?_ GE229.out) | exact HB.out)⟩⟩
                case round =>
                  clear H'
                  try clear c1
                  try clear c2
                  try clear p2
                  try clear c3
                  try clear c5
                  try clear p6
                  try clear c7
                  try clear c8
                  try clear c10
                  try clear c11
                  try clear c11b0
                  try clear c11b1
                  try clear c12
                  try clear c14
                  try clear c19
                  try clear c19b0
                  try clear c29
                  try clear c29b0
                  try clear c29b1
                  try clear c30
                  try clear c30b0
                  try clear c30b1
                  try clear c31
                  try clear c35
                  try clear hcz14_0
                  try clear hcz14_1
                  try clear hcz14_10
                  try clear hcz14_2
                  try clear hcz14_3
                  try clear hcz14_4
                  try clear hcz14_5
                  try clear hcz14_6
                  try clear hcz14_7
                  try clear hcz14_8
                  try clear hcz14_9
                  try clear hcz16_0
                  try clear hcz16_1
                  try clear hcz16_10
                  try clear hcz16_2
                  try clear hcz16_3
                  try clear hcz16_4
                  try clear hcz16_5
                  try clear hcz16_6
                  try clear hcz16_7
                  try clear hcz16_8
                  try clear hcz16_9
                  try clear hcz18_0
                  try clear hcz18_1
                  try clear hcz18_10
                  try clear hcz18_2
                  try clear hcz18_3
                  try clear hcz18_4
                  try clear hcz18_5
                  try clear hcz18_6
                  try clear hcz18_7
                  try clear hcz18_8
                  try clear hcz18_9
                  try clear hcz23_0
                  try clear hcz23_1
                  try clear hcz23_10
                  try clear hcz23_2
                  try clear hcz23_3
                  try clear hcz23_4
                  try clear hcz23_5
                  try clear hcz23_6
                  try clear hcz23_7
                  try clear hcz23_8
                  try clear hcz23_9
                  try clear hcz25_0
                  try clear hcz25_1
                  try clear hcz25_10
                  try clear hcz25_2
                  try clear hcz25_3
                  try clear hcz25_4
                  try clear hcz25_5
                  try clear hcz25_6
                  try clear hcz25_7
                  try clear hcz25_8
                  try clear hcz25_9
                  try clear hcz33_0
                  try clear hcz33_1
                  try clear hcz33_10
                  try clear hcz33_2
                  try clear hcz33_3
                  try clear hcz33_4
                  try clear hcz33_5
                  try clear hcz33_6
                  try clear hcz33_7
                  try clear hcz33_8
                  try clear hcz33_9
                  try clear hcz34_0
                  try clear hcz34_1
                  try clear hcz34_10
                  try clear hcz34_2
                  try clear hcz34_3
                  try clear hcz34_4
                  try clear hcz34_5
                  try clear hcz34_6
                  try clear hcz34_7
                  try clear hcz34_8
                  try clear hcz34_9
                  try clear hcz6_0
                  try clear hcz6_1
                  try clear hcz6_10
                  try clear hcz6_2
                  try clear hcz6_3
                  try clear hcz6_4
                  try clear hcz6_5
                  try clear hcz6_6
                  try clear hcz6_7
                  try clear hcz6_8
                  try clear hcz6_9
                  try clear hfz14_0
                  try clear hfz14_1
                  try clear hfz14_10
                  try clear hfz14_2
                  try clear hfz14_3
                  try clear hfz14_4
                  try clear hfz14_5
                  try clear hfz14_6
                  try clear hfz14_7
                  try clear hfz14_8
                  try clear hfz14_9
                  try clear hfz16_0
                  try clear hfz16_1
                  try clear hfz16_10
                  try clear hfz16_2
                  try clear hfz16_3
                  try clear hfz16_4
                  try clear hfz16_5
                  try clear hfz16_6
                  try clear hfz16_7
                  try clear hfz16_8
                  try clear hfz16_9
                  try clear hfz18_0
                  try clear hfz18_1
                  try clear hfz18_10
                  try clear hfz18_2
                  try clear hfz18_3
                  try clear hfz18_4
                  try clear hfz18_5
                  try clear hfz18_6
                  try clear hfz18_7
                  try clear hfz18_8
                  try clear hfz18_9
                  try clear hfz23_0
                  try clear hfz23_1
                  try clear hfz23_10
                  try clear hfz23_2
                  try clear hfz23_3
                  try clear hfz23_4
                  try clear hfz23_5
                  try clear hfz23_6
                  try clear hfz23_7
                  try clear hfz23_8
                  try clear hfz23_9
                  try clear hfz25_0
                  try clear hfz25_1
                  try clear hfz25_10
                  try clear hfz25_2
                  try clear hfz25_3
                  try clear hfz25_4
                  try clear hfz25_5
                  try clear hfz25_6
                  try clear hfz25_7
                  try clear hfz25_8
                  try clear hfz25_9
                  try clear hfz33_0
                  try clear hfz33_1
                  try clear hfz33_10
                  try clear hfz33_2
                  try clear hfz33_3
                  try clear hfz33_4
                  try clear hfz33_5
                  try clear hfz33_6
                  try clear hfz33_7
                  try clear hfz33_8
                  try clear hfz33_9
                  try clear hfz34_0
                  try clear hfz34_1
                  try clear hfz34_10
                  try clear hfz34_2
                  try clear hfz34_3
                  try clear hfz34_4
                  try clear hfz34_5
                  try clear hfz34_6
                  try clear hfz34_7
                  try clear hfz34_8
                  try clear hfz34_9
                  try clear hfz6_0
                  try clear hfz6_1
                  try clear hfz6_10
                  try clear hfz6_2
                  try clear hfz6_3
                  try clear hfz6_4
                  try clear hfz6_5
                  try clear hfz6_6
                  try clear hfz6_7
                  try clear hfz6_8
                  try clear hfz6_9
                  try clear p2
                  try clear p6
                  obtain ⟨x10_3, rfl, HA, HK3, BK229, HB⟩ := hrel
                  cases gk with
                  | zero => exact absurd HA.out (by simp [gristmilllaw12_CheckWhole.l0])
                  | succ k3 =>
                    have H := HA.out
                    clear HA
                    simp only [gristmilllaw12_CheckWhole.l0] at H
                    by_cases c36 : x10_3 < (l0_2.length : Int)
                    · rw [if_pos c36] at H
                      have c36b0 : decide (x10_3 < (l0_2.length : Int)) = true := decide_eq_true c36
                      clear c36
                      by_cases c37 : 0 ≤ x10_3
                      · rw [if_pos c37] at H
                        have c37b0 : decide (0 ≤ x10_3) = true := decide_eq_true c37
                        clear c37
                        replace H := Option.bind_eq_some_iff.mp H
                        obtain ⟨⟨t245, t246⟩, A380, H⟩ := H
                        replace H : ((check_Kind.f k3 ((rd_T47 l0_2 x10_3).f2.f0) ((rd_T47 l0_2 x10_3).f2.f1.f0) ((rd_T47 l0_2 x10_3).f2.f1.f1) ((rd_T47 l0_2 x10_3).f2.f1.f2) ((rd_T47 l0_2 x10_3).f2.f2) x5_11 0).bind fun bt248 => ((gristmilllaw12_code.f t246).bind fun t250 => ((gristmilllaw12_code.f bt248.2).bind fun t251 => (if (wrap64 (t250 + t251)) = 0 then (if t245 = 1 then (if bt248.1 = 0 then (gristmilllaw12_CheckWhole.l0 k3 x5_11 (wrap64 (x10_3 + 1)) a0_0 a0_1 l0_2 a0_3 a0_4 a0_5 a0_6 a0_7 l0_8 a0_9 a0_10) else (some false)) else (some false)) else (some false))))) = some r := H
                        have A38 := Aside0.mk A380
                        clear A380
                        replace H := Option.bind_eq_some_iff.mp H
                        obtain ⟨⟨t248, t249⟩, A390, H⟩ := H
                        replace H : ((gristmilllaw12_code.f t246).bind fun t250 => ((gristmilllaw12_code.f t249).bind fun t251 => (if (wrap64 (t250 + t251)) = 0 then (if t245 = 1 then (if t248 = 0 then (gristmilllaw12_CheckWhole.l0 k3 x5_11 (wrap64 (x10_3 + 1)) a0_0 a0_1 l0_2 a0_3 a0_4 a0_5 a0_6 a0_7 l0_8 a0_9 a0_10) else (some false)) else (some false)) else (some false)))) = some r := H
                        have A39 := Aside0.mk A390
                        clear A390
                        replace H := Option.bind_eq_some_iff.mp H
                        obtain ⟨t250, A400, H⟩ := H
                        replace H : ((gristmilllaw12_code.f t249).bind fun t251 => (if (wrap64 (t250 + t251)) = 0 then (if t245 = 1 then (if t248 = 0 then (gristmilllaw12_CheckWhole.l0 k3 x5_11 (wrap64 (x10_3 + 1)) a0_0 a0_1 l0_2 a0_3 a0_4 a0_5 a0_6 a0_7 l0_8 a0_9 a0_10) else (some false)) else (some false)) else (some false))) = some r := H
                        have A40 := Aside0.mk A400
                        clear A400
                        replace H := Option.bind_eq_some_iff.mp H
                        obtain ⟨t251, A410, H⟩ := H
                        replace H : (if (wrap64 (t250 + t251)) = 0 then (if t245 = 1 then (if t248 = 0 then (gristmilllaw12_CheckWhole.l0 k3 x5_11 (wrap64 (x10_3 + 1)) a0_0 a0_1 l0_2 a0_3 a0_4 a0_5 a0_6 a0_7 l0_8 a0_9 a0_10) else (some false)) else (some false)) else (some false)) = some r := H
                        have A41 := Aside0.mk A410
                        clear A410
                        by_cases c42 : (wrap64 (t250 + t251)) = 0
                        · rw [if_pos c42] at H
                          have c42b0 : ((wrap64 (t250 + t251)) == 0) = true := beq_iff_eq.mpr c42
                          have c42b1 : ((wrap64 (t250 + t251)) != 0) = false := bne_eq_false_iff_eq.mpr c42
                          clear c42
                          by_cases c43 : t245 = 1
                          · rw [if_pos c43] at H
                            have c43b0 : (t245 == 1) = true := beq_iff_eq.mpr c43
                            have c43b1 : (t245 != 1) = false := bne_eq_false_iff_eq.mpr c43
                            clear c43
                            by_cases c44 : t248 = 0
                            · rw [if_pos c44] at H
                              have c44b0 : (t248 == 0) = true := beq_iff_eq.mpr c44
                              have c44b1 : (t248 != 0) = false := bne_eq_false_iff_eq.mpr c44
                              clear c44
                              have H' := Aside0.mk H
                              clear H
                              have hcz45_0 : wr.cell? ⟨gb229, 0, none⟩ = some (.string a0_0) := (blk_cell BK229.out 0).trans rfl
                              have hcz45_1 : wr.cell? ⟨gb229, 1, none⟩ = some (.int .i64 a0_1) := (blk_cell BK229.out 1).trans rfl
                              have hcz45_2 : wr.cell? ⟨gb229, 2, none⟩ = some (.slice A0_2 l0_2.length c0_2) := (blk_cell BK229.out 2).trans rfl
                              have hcz45_3 : wr.cell? ⟨gb229, 3, none⟩ = some (.int .i64 a0_3) := (blk_cell BK229.out 3).trans rfl
                              have hcz45_4 : wr.cell? ⟨gb229, 4, none⟩ = some (.int .i64 a0_4) := (blk_cell BK229.out 4).trans rfl
                              have hcz45_5 : wr.cell? ⟨gb229, 5, none⟩ = some (.int .u8 a0_5) := (blk_cell BK229.out 5).trans rfl
                              have hcz45_6 : wr.cell? ⟨gb229, 6, none⟩ = some (.int .i64 a0_6) := (blk_cell BK229.out 6).trans rfl
                              have hcz45_7 : wr.cell? ⟨gb229, 7, none⟩ = some (.string a0_7) := (blk_cell BK229.out 7).trans rfl
                              have hcz45_8 : wr.cell? ⟨gb229, 8, none⟩ = some (.slice A0_8 l0_8.length c0_8) := (blk_cell BK229.out 8).trans rfl
                              have hcz45_9 : wr.cell? ⟨gb229, 9, none⟩ = some (.bool a0_9) := (blk_cell BK229.out 9).trans rfl
                              have hcz45_10 : wr.cell? ⟨gb229, 10, none⟩ = some (.int .i64 a0_10) := (blk_cell BK229.out 10).trans rfl
                              have hfz45_0 := blk_frozen BK229.out 0
                              have hfz45_1 := blk_frozen BK229.out 1
                              have hfz45_2 := blk_frozen BK229.out 2
                              have hfz45_3 := blk_frozen BK229.out 3
                              have hfz45_4 := blk_frozen BK229.out 4
                              have hfz45_5 := blk_frozen BK229.out 5
                              have hfz45_6 := blk_frozen BK229.out 6
                              have hfz45_7 := blk_frozen BK229.out 7
                              have hfz45_8 := blk_frozen BK229.out 8
                              have hfz45_9 := blk_frozen BK229.out 9
                              have hfz45_10 := blk_frozen BK229.out 10
                              have p244 : 0 ≤ (x10_3 : Int) := of_decide_eq_true (by first | (with_reducible assumption) | assumption)
                              have q244 : x10_3 < (l0_2.length : Int) := of_decide_eq_true (by first | (with_reducible assumption) | assumption)
                              obtain ⟨ad244, A244_4, c244_4, A244_9, c244_9, A244_14, c244_14, e244, hx244_0, hx244_1, hx244_2, hx244_3, hx244_4, hx244_5, hx244_6, hx244_7, hx244_8, hx244_9, hx244_10, hx244_11, hx244_12, hx244_13, hx244_14, hl244_4, hi244_4, hl244_9, hi244_9, hl244_14, hi244_14⟩ := at_T47 HR0_2.out x10_3 p244 q244
                              cases e244
                              replace hx244_0 := (HB.out.cell (World.block_lt_of_cell? w _ hx244_0)).trans hx244_0
                              replace hx244_1 := (HB.out.cell (World.block_lt_of_cell? w _ hx244_1)).trans hx244_1
                              replace hx244_2 := (HB.out.cell (World.block_lt_of_cell? w _ hx244_2)).trans hx244_2
                              replace hx244_3 := (HB.out.cell (World.block_lt_of_cell? w _ hx244_3)).trans hx244_3
                              replace hx244_4 := (HB.out.cell (World.block_lt_of_cell? w _ hx244_4)).trans hx244_4
                              replace hx244_5 := (HB.out.cell (World.block_lt_of_cell? w _ hx244_5)).trans hx244_5
                              replace hx244_6 := (HB.out.cell (World.block_lt_of_cell? w _ hx244_6)).trans hx244_6
                              replace hx244_7 := (HB.out.cell (World.block_lt_of_cell? w _ hx244_7)).trans hx244_7
                              replace hx244_8 := (HB.out.cell (World.block_lt_of_cell? w _ hx244_8)).trans hx244_8
                              replace hx244_9 := (HB.out.cell (World.block_lt_of_cell? w _ hx244_9)).trans hx244_9
                              replace hx244_10 := (HB.out.cell (World.block_lt_of_cell? w _ hx244_10)).trans hx244_10
                              replace hx244_11 := (HB.out.cell (World.block_lt_of_cell? w _ hx244_11)).trans hx244_11
                              replace hx244_12 := (HB.out.cell (World.block_lt_of_cell? w _ hx244_12)).trans hx244_12
                              replace hx244_13 := (HB.out.cell (World.block_lt_of_cell? w _ hx244_13)).trans hx244_13
                              replace hx244_14 := (HB.out.cell (World.block_lt_of_cell? w _ hx244_14)).trans hx244_14
                              have HR244_4 := Aside0.mk hi244_4
                              have HC244_4 := Aside0.mk hl244_4
                              clear hi244_4 hl244_4
                              have HR244_9 := Aside0.mk hi244_9
                              have HC244_9 := Aside0.mk hl244_9
                              clear hi244_9 hl244_9
                              have HR244_14 := Aside0.mk hi244_14
                              have HC244_14 := Aside0.mk hl244_14
                              clear hi244_14 hl244_14
                              replace p244 := eq_true p244
                              replace q244 := eq_true q244
                              go_wp2_with (first | ((with_reducible refine gate_callee (f := 8) rfl ?_); refine goesL_ (some 77) rfl rfl Try.func8 (by kernel_rfl) rfl #[.agg #[.int .i64 ((rd_T47 l0_2 x10_3).f0.f0), .int .u8 ((rd_T47 l0_2 x10_3).f0.f1.f0), .int .i64 ((rd_T47 l0_2 x10_3).f0.f1.f1), .string ((rd_T47 l0_2 x10_3).f0.f1.f2), .slice A244_4 ((rd_T47 l0_2 x10_3).f0.f2).length c244_4], .int .i64 x5_11, .int .u8 0] rfl (by (try simp only [List.map_toArray, List.map_cons, List.map_nil]); first | done | rfl | (simp only [List.length_drop, List.length_take]; rfl)) ?_; (with_reducible refine (check_Kind.calls k3 ((rd_T47 l0_2 x10_3).f0.f0) ((rd_T47 l0_2 x10_3).f0.f1.f0) ((rd_T47 l0_2 x10_3).f0.f1.f1) ((rd_T47 l0_2 x10_3).f0.f1.f2) _ _ ((rd_T47 l0_2 x10_3).f0.f2) x5_11 0 t245 t246 _ ?side1 ?side2 A38.out).mono ?_); (case side1 => repeat (first | exact (Kd.C_below HR244_4.out HB.out) | (with_reducible refine Kd.C_alloc ?_ _) | (with_reducible refine Kd.C_drewN ?_ _) | (with_reducible refine Kd.C_drew ?_))); (case side2 => exact HC244_4.out); rintro e w46 ⟨rfl, hb⟩; refine ⟨_, rfl, ?_⟩; have n0_ := Aside0.mk (blk_below (g := gb229) (o := .cells #[.string a0_0, .int .i64 a0_1, .slice (some ad244) l0_2.length c0_2, .int .i64 a0_3, .int .i64 a0_4, .int .u8 a0_5, .int .i64 a0_6, .string a0_7, .slice A0_8 l0_8.length c0_8, .bool a0_9, .int .i64 a0_10] 38 (0, 0)) (by (with_reducible repeat (first | refine blk_drewN ?_ _ | refine blk_drew ?_ | refine blk_alloc ?_ _)); exact BK229.out) hb); have n1_ := Aside0.mk (below_step (by repeat (first | (with_reducible first | exact HB.out | apply below_alloc | apply pw_below_drewN | apply below_drew1 | refine below_set ?_ GE229.out) | exact HB.out)) hb); clear BK229; clear HB; have BK229 := n0_; have HB := n1_; clear n0_ n1_; (try clear hb); (try clear hb2); (try clear hk); (try clear hi); have hcz47_0 : w46.cell? ⟨gb229, 0, none⟩ = some (.string a0_0) := (blk_cell BK229.out 0).trans rfl; have hcz47_1 : w46.cell? ⟨gb229, 1, none⟩ = some (.int .i64 a0_1) := (blk_cell BK229.out 1).trans rfl; have hcz47_2 : w46.cell? ⟨gb229, 2, none⟩ = some (.slice (some ad244) l0_2.length c0_2) := (blk_cell BK229.out 2).trans rfl; have hcz47_3 : w46.cell? ⟨gb229, 3, none⟩ = some (.int .i64 a0_3) := (blk_cell BK229.out 3).trans rfl; have hcz47_4 : w46.cell? ⟨gb229, 4, none⟩ = some (.int .i64 a0_4) := (blk_cell BK229.out 4).trans rfl; have hcz47_5 : w46.cell? ⟨gb229, 5, none⟩ = some (.int .u8 a0_5) := (blk_cell BK229.out 5).trans rfl; have hcz47_6 : w46.cell? ⟨gb229, 6, none⟩ = some (.int .i64 a0_6) := (blk_cell BK229.out 6).trans rfl; have hcz47_7 : w46.cell? ⟨gb229, 7, none⟩ = some (.string a0_7) := (blk_cell BK229.out 7).trans rfl; have hcz47_8 : w46.cell? ⟨gb229, 8, none⟩ = some (.slice A0_8 l0_8.length c0_8) := (blk_cell BK229.out 8).trans rfl; have hcz47_9 : w46.cell? ⟨gb229, 9, none⟩ = some (.bool a0_9) := (blk_cell BK229.out 9).trans rfl; have hcz47_10 : w46.cell? ⟨gb229, 10, none⟩ = some (.int .i64 a0_10) := (blk_cell BK229.out 10).trans rfl; have hfz47_0 := blk_frozen BK229.out 0; have hfz47_1 := blk_frozen BK229.out 1; have hfz47_2 := blk_frozen BK229.out 2; have hfz47_3 := blk_frozen BK229.out 3; have hfz47_4 := blk_frozen BK229.out 4; have hfz47_5 := blk_frozen BK229.out 5; have hfz47_6 := blk_frozen BK229.out 6; have hfz47_7 := blk_frozen BK229.out 7; have hfz47_8 := blk_frozen BK229.out 8; have hfz47_9 := blk_frozen BK229.out 9; have hfz47_10 := blk_frozen BK229.out 10; have p247 : 0 ≤ (x10_3 : Int) := of_decide_eq_true (by first | (with_reducible assumption) | assumption); have q247 : x10_3 < (l0_2.length : Int) := of_decide_eq_true (by first | (with_reducible assumption) | assumption); obtain ⟨ad247, A247_4, c247_4, A247_9, c247_9, A247_14, c247_14, e247, hx247_0, hx247_1, hx247_2, hx247_3, hx247_4, hx247_5, hx247_6, hx247_7, hx247_8, hx247_9, hx247_10, hx247_11, hx247_12, hx247_13, hx247_14, hl247_4, hi247_4, hl247_9, hi247_9, hl247_14, hi247_14⟩ := at_T47 HR0_2.out x10_3 p247 q247; obtain rfl : ad244 = ad247 := (by injection e247); replace hx247_0 := (HB.out.cell (World.block_lt_of_cell? w _ hx247_0)).trans hx247_0; replace hx247_1 := (HB.out.cell (World.block_lt_of_cell? w _ hx247_1)).trans hx247_1; replace hx247_2 := (HB.out.cell (World.block_lt_of_cell? w _ hx247_2)).trans hx247_2; replace hx247_3 := (HB.out.cell (World.block_lt_of_cell? w _ hx247_3)).trans hx247_3; replace hx247_4 := (HB.out.cell (World.block_lt_of_cell? w _ hx247_4)).trans hx247_4; replace hx247_5 := (HB.out.cell (World.block_lt_of_cell? w _ hx247_5)).trans hx247_5; replace hx247_6 := (HB.out.cell (World.block_lt_of_cell? w _ hx247_6)).trans hx247_6; replace hx247_7 := (HB.out.cell (World.block_lt_of_cell? w _ hx247_7)).trans hx247_7; replace hx247_8 := (HB.out.cell (World.block_lt_of_cell? w _ hx247_8)).trans hx247_8; replace hx247_9 := (HB.out.cell (World.block_lt_of_cell? w _ hx247_9)).trans hx247_9; replace hx247_10 := (HB.out.cell (World.block_lt_of_cell? w _ hx247_10)).trans hx247_10; replace hx247_11 := (HB.out.cell (World.block_lt_of_cell? w _ hx247_11)).trans hx247_11; replace hx247_12 := (HB.out.cell (World.block_lt_of_cell? w _ hx247_12)).trans hx247_12; replace hx247_13 := (HB.out.cell (World.block_lt_of_cell? w _ hx247_13)).trans hx247_13; replace hx247_14 := (HB.out.cell (World.block_lt_of_cell? w _ hx247_14)).trans hx247_14; have HR247_4 := Aside0.mk hi247_4; have HC247_4 := Aside0.mk hl247_4; clear hi247_4 hl247_4; have HR247_9 := Aside0.mk hi247_9; have HC247_9 := Aside0.mk hl247_9; clear hi247_9 hl247_9; have HR247_14 := Aside0.mk hi247_14; have HC247_14 := Aside0.mk hl247_14; clear hi247_14 hl247_14; replace p247 := eq_true p247; replace q247 := eq_true q247) | ((with_reducible refine gate_callee (f := 8) rfl ?_); refine goesL_ (some 88) rfl rfl Try.func8 (by kernel_rfl) rfl #[.agg #[.int .i64 ((rd_T47 l0_2 x10_3).f2.f0), .int .u8 ((rd_T47 l0_2 x10_3).f2.f1.f0), .int .i64 ((rd_T47 l0_2 x10_3).f2.f1.f1), .string ((rd_T47 l0_2 x10_3).f2.f1.f2), .slice A247_14 ((rd_T47 l0_2 x10_3).f2.f2).length c247_14], .int .i64 x5_11, .int .u8 0] rfl (by (try simp only [List.map_toArray, List.map_cons, List.map_nil]); first | done | rfl | (simp only [List.length_drop, List.length_take]; rfl)) ?_; (with_reducible refine (check_Kind.calls k3 ((rd_T47 l0_2 x10_3).f2.f0) ((rd_T47 l0_2 x10_3).f2.f1.f0) ((rd_T47 l0_2 x10_3).f2.f1.f1) ((rd_T47 l0_2 x10_3).f2.f1.f2) _ _ ((rd_T47 l0_2 x10_3).f2.f2) x5_11 0 t248 t249 _ ?side1 ?side2 A39.out).mono ?_); (case side1 => repeat (first | exact (Kd.C_below HR247_14.out HB.out) | (with_reducible refine Kd.C_alloc ?_ _) | (with_reducible refine Kd.C_drewN ?_ _) | (with_reducible refine Kd.C_drew ?_))); (case side2 => exact HC247_14.out); rintro e w48 ⟨rfl, hb⟩; refine ⟨_, rfl, ?_⟩; have n0_ := Aside0.mk (blk_below (g := gb229) (o := .cells #[.string a0_0, .int .i64 a0_1, .slice (some ad244) l0_2.length c0_2, .int .i64 a0_3, .int .i64 a0_4, .int .u8 a0_5, .int .i64 a0_6, .string a0_7, .slice A0_8 l0_8.length c0_8, .bool a0_9, .int .i64 a0_10] 38 (0, 0)) (by (with_reducible repeat (first | refine blk_drewN ?_ _ | refine blk_drew ?_ | refine blk_alloc ?_ _)); exact BK229.out) hb); have n1_ := Aside0.mk (below_step (by repeat (first | (with_reducible first | exact HB.out | apply below_alloc | apply pw_below_drewN | apply below_drew1 | refine below_set ?_ GE229.out) | exact HB.out)) hb); clear BK229; clear HB; have BK229 := n0_; have HB := n1_; clear n0_ n1_; (try clear hb); (try clear hb2); (try clear hk); (try clear hi)) | ((with_reducible refine gate_callee (f := 10) rfl ?_); refine goesL_ (some 92) rfl rfl Try.func10 (by kernel_rfl) rfl #[.int .i64 t246] rfl (by (try simp only [List.map_toArray, List.map_cons, List.map_nil]); first | done | rfl | (simp only [List.length_drop, List.length_take]; rfl)) ?_; (with_reducible refine (gristmilllaw12_code.calls t246 t250 _ A40.out).mono ?_); rintro e w' ⟨rfl, ⟨nd, rfl⟩⟩; refine ⟨_, rfl, ?_⟩) | ((with_reducible refine gate_callee (f := 10) rfl ?_); refine goesL_ (some 94) rfl rfl Try.func10 (by kernel_rfl) rfl #[.int .i64 t249] rfl (by (try simp only [List.map_toArray, List.map_cons, List.map_nil]); first | done | rfl | (simp only [List.length_drop, List.length_take]; rfl)) ?_; (with_reducible refine (gristmilllaw12_code.calls t249 t251 _ A41.out).mono ?_); rintro e w' ⟨rfl, ⟨nd, rfl⟩⟩; refine ⟨_, rfl, ?_⟩))
                              go_roundg k3
                              case measure => have := HJ11.out; have := HJ21.out; have := HK3.out; omega
                              case rel => exact ⟨(wrap64 (x10_3 + 1)), (by first | rfl | (simp; done) | (simp [*]; done)), H', ⟨by have := HJ11.out; have := HJ21.out; have := HK3.out; omega⟩, ⟨by (with_reducible repeat (first | refine blk_drewN ?_ _ | refine blk_drew ?_ | refine blk_alloc ?_ _)); exact BK229.out⟩, ⟨by repeat (first | (with_reducible first | exact HB.out | apply below_alloc | apply pw_below_drewN | apply below_drew1 | refine below_set ?_ GE229.out) | exact HB.out)⟩⟩
                            · rw [if_neg c44] at H
                              have c44b0 : (t248 == 0) = false := beq_eq_false_iff_ne.mpr c44
                              have c44b1 : (t248 != 0) = true := bne_iff_ne.mpr c44
                              obtain rfl := Option.some.inj H
                              have hcz49_0 : wr.cell? ⟨gb229, 0, none⟩ = some (.string a0_0) := (blk_cell BK229.out 0).trans rfl
                              have hcz49_1 : wr.cell? ⟨gb229, 1, none⟩ = some (.int .i64 a0_1) := (blk_cell BK229.out 1).trans rfl
                              have hcz49_2 : wr.cell? ⟨gb229, 2, none⟩ = some (.slice A0_2 l0_2.length c0_2) := (blk_cell BK229.out 2).trans rfl
                              have hcz49_3 : wr.cell? ⟨gb229, 3, none⟩ = some (.int .i64 a0_3) := (blk_cell BK229.out 3).trans rfl
                              have hcz49_4 : wr.cell? ⟨gb229, 4, none⟩ = some (.int .i64 a0_4) := (blk_cell BK229.out 4).trans rfl
                              have hcz49_5 : wr.cell? ⟨gb229, 5, none⟩ = some (.int .u8 a0_5) := (blk_cell BK229.out 5).trans rfl
                              have hcz49_6 : wr.cell? ⟨gb229, 6, none⟩ = some (.int .i64 a0_6) := (blk_cell BK229.out 6).trans rfl
                              have hcz49_7 : wr.cell? ⟨gb229, 7, none⟩ = some (.string a0_7) := (blk_cell BK229.out 7).trans rfl
                              have hcz49_8 : wr.cell? ⟨gb229, 8, none⟩ = some (.slice A0_8 l0_8.length c0_8) := (blk_cell BK229.out 8).trans rfl
                              have hcz49_9 : wr.cell? ⟨gb229, 9, none⟩ = some (.bool a0_9) := (blk_cell BK229.out 9).trans rfl
                              have hcz49_10 : wr.cell? ⟨gb229, 10, none⟩ = some (.int .i64 a0_10) := (blk_cell BK229.out 10).trans rfl
                              have hfz49_0 := blk_frozen BK229.out 0
                              have hfz49_1 := blk_frozen BK229.out 1
                              have hfz49_2 := blk_frozen BK229.out 2
                              have hfz49_3 := blk_frozen BK229.out 3
                              have hfz49_4 := blk_frozen BK229.out 4
                              have hfz49_5 := blk_frozen BK229.out 5
                              have hfz49_6 := blk_frozen BK229.out 6
                              have hfz49_7 := blk_frozen BK229.out 7
                              have hfz49_8 := blk_frozen BK229.out 8
                              have hfz49_9 := blk_frozen BK229.out 9
                              have hfz49_10 := blk_frozen BK229.out 10
                              have p244 : 0 ≤ (x10_3 : Int) := of_decide_eq_true (by first | (with_reducible assumption) | assumption)
                              have q244 : x10_3 < (l0_2.length : Int) := of_decide_eq_true (by first | (with_reducible assumption) | assumption)
                              obtain ⟨ad244, A244_4, c244_4, A244_9, c244_9, A244_14, c244_14, e244, hx244_0, hx244_1, hx244_2, hx244_3, hx244_4, hx244_5, hx244_6, hx244_7, hx244_8, hx244_9, hx244_10, hx244_11, hx244_12, hx244_13, hx244_14, hl244_4, hi244_4, hl244_9, hi244_9, hl244_14, hi244_14⟩ := at_T47 HR0_2.out x10_3 p244 q244
                              cases e244
                              replace hx244_0 := (HB.out.cell (World.block_lt_of_cell? w _ hx244_0)).trans hx244_0
                              replace hx244_1 := (HB.out.cell (World.block_lt_of_cell? w _ hx244_1)).trans hx244_1
                              replace hx244_2 := (HB.out.cell (World.block_lt_of_cell? w _ hx244_2)).trans hx244_2
                              replace hx244_3 := (HB.out.cell (World.block_lt_of_cell? w _ hx244_3)).trans hx244_3
                              replace hx244_4 := (HB.out.cell (World.block_lt_of_cell? w _ hx244_4)).trans hx244_4
                              replace hx244_5 := (HB.out.cell (World.block_lt_of_cell? w _ hx244_5)).trans hx244_5
                              replace hx244_6 := (HB.out.cell (World.block_lt_of_cell? w _ hx244_6)).trans hx244_6
                              replace hx244_7 := (HB.out.cell (World.block_lt_of_cell? w _ hx244_7)).trans hx244_7
                              replace hx244_8 := (HB.out.cell (World.block_lt_of_cell? w _ hx244_8)).trans hx244_8
                              replace hx244_9 := (HB.out.cell (World.block_lt_of_cell? w _ hx244_9)).trans hx244_9
                              replace hx244_10 := (HB.out.cell (World.block_lt_of_cell? w _ hx244_10)).trans hx244_10
                              replace hx244_11 := (HB.out.cell (World.block_lt_of_cell? w _ hx244_11)).trans hx244_11
                              replace hx244_12 := (HB.out.cell (World.block_lt_of_cell? w _ hx244_12)).trans hx244_12
                              replace hx244_13 := (HB.out.cell (World.block_lt_of_cell? w _ hx244_13)).trans hx244_13
                              replace hx244_14 := (HB.out.cell (World.block_lt_of_cell? w _ hx244_14)).trans hx244_14
                              have HR244_4 := Aside0.mk hi244_4
                              have HC244_4 := Aside0.mk hl244_4
                              clear hi244_4 hl244_4
                              have HR244_9 := Aside0.mk hi244_9
                              have HC244_9 := Aside0.mk hl244_9
                              clear hi244_9 hl244_9
                              have HR244_14 := Aside0.mk hi244_14
                              have HC244_14 := Aside0.mk hl244_14
                              clear hi244_14 hl244_14
                              replace p244 := eq_true p244
                              replace q244 := eq_true q244
                              go_wp2_with (first | ((with_reducible refine gate_callee (f := 8) rfl ?_); refine goesL_ (some 77) rfl rfl Try.func8 (by kernel_rfl) rfl #[.agg #[.int .i64 ((rd_T47 l0_2 x10_3).f0.f0), .int .u8 ((rd_T47 l0_2 x10_3).f0.f1.f0), .int .i64 ((rd_T47 l0_2 x10_3).f0.f1.f1), .string ((rd_T47 l0_2 x10_3).f0.f1.f2), .slice A244_4 ((rd_T47 l0_2 x10_3).f0.f2).length c244_4], .int .i64 x5_11, .int .u8 0] rfl (by (try simp only [List.map_toArray, List.map_cons, List.map_nil]); first | done | rfl | (simp only [List.length_drop, List.length_take]; rfl)) ?_; (with_reducible refine (check_Kind.calls k3 ((rd_T47 l0_2 x10_3).f0.f0) ((rd_T47 l0_2 x10_3).f0.f1.f0) ((rd_T47 l0_2 x10_3).f0.f1.f1) ((rd_T47 l0_2 x10_3).f0.f1.f2) _ _ ((rd_T47 l0_2 x10_3).f0.f2) x5_11 0 t245 t246 _ ?side1 ?side2 A38.out).mono ?_); (case side1 => repeat (first | exact (Kd.C_below HR244_4.out HB.out) | (with_reducible refine Kd.C_alloc ?_ _) | (with_reducible refine Kd.C_drewN ?_ _) | (with_reducible refine Kd.C_drew ?_))); (case side2 => exact HC244_4.out); rintro e w50 ⟨rfl, hb⟩; refine ⟨_, rfl, ?_⟩; have n0_ := Aside0.mk (blk_below (g := gb229) (o := .cells #[.string a0_0, .int .i64 a0_1, .slice (some ad244) l0_2.length c0_2, .int .i64 a0_3, .int .i64 a0_4, .int .u8 a0_5, .int .i64 a0_6, .string a0_7, .slice A0_8 l0_8.length c0_8, .bool a0_9, .int .i64 a0_10] 38 (0, 0)) (by (with_reducible repeat (first | refine blk_drewN ?_ _ | refine blk_drew ?_ | refine blk_alloc ?_ _)); exact BK229.out) hb); have n1_ := Aside0.mk (below_step (by repeat (first | (with_reducible first | exact HB.out | apply below_alloc | apply pw_below_drewN | apply below_drew1 | refine below_set ?_ GE229.out) | exact HB.out)) hb); clear BK229; clear HB; have BK229 := n0_; have HB := n1_; clear n0_ n1_; (try clear hb); (try clear hb2); (try clear hk); (try clear hi); have hcz51_0 : w50.cell? ⟨gb229, 0, none⟩ = some (.string a0_0) := (blk_cell BK229.out 0).trans rfl; have hcz51_1 : w50.cell? ⟨gb229, 1, none⟩ = some (.int .i64 a0_1) := (blk_cell BK229.out 1).trans rfl; have hcz51_2 : w50.cell? ⟨gb229, 2, none⟩ = some (.slice (some ad244) l0_2.length c0_2) := (blk_cell BK229.out 2).trans rfl; have hcz51_3 : w50.cell? ⟨gb229, 3, none⟩ = some (.int .i64 a0_3) := (blk_cell BK229.out 3).trans rfl; have hcz51_4 : w50.cell? ⟨gb229, 4, none⟩ = some (.int .i64 a0_4) := (blk_cell BK229.out 4).trans rfl; have hcz51_5 : w50.cell? ⟨gb229, 5, none⟩ = some (.int .u8 a0_5) := (blk_cell BK229.out 5).trans rfl; have hcz51_6 : w50.cell? ⟨gb229, 6, none⟩ = some (.int .i64 a0_6) := (blk_cell BK229.out 6).trans rfl; have hcz51_7 : w50.cell? ⟨gb229, 7, none⟩ = some (.string a0_7) := (blk_cell BK229.out 7).trans rfl; have hcz51_8 : w50.cell? ⟨gb229, 8, none⟩ = some (.slice A0_8 l0_8.length c0_8) := (blk_cell BK229.out 8).trans rfl; have hcz51_9 : w50.cell? ⟨gb229, 9, none⟩ = some (.bool a0_9) := (blk_cell BK229.out 9).trans rfl; have hcz51_10 : w50.cell? ⟨gb229, 10, none⟩ = some (.int .i64 a0_10) := (blk_cell BK229.out 10).trans rfl; have hfz51_0 := blk_frozen BK229.out 0; have hfz51_1 := blk_frozen BK229.out 1; have hfz51_2 := blk_frozen BK229.out 2; have hfz51_3 := blk_frozen BK229.out 3; have hfz51_4 := blk_frozen BK229.out 4; have hfz51_5 := blk_frozen BK229.out 5; have hfz51_6 := blk_frozen BK229.out 6; have hfz51_7 := blk_frozen BK229.out 7; have hfz51_8 := blk_frozen BK229.out 8; have hfz51_9 := blk_frozen BK229.out 9; have hfz51_10 := blk_frozen BK229.out 10; have p247 : 0 ≤ (x10_3 : Int) := of_decide_eq_true (by first | (with_reducible assumption) | assumption); have q247 : x10_3 < (l0_2.length : Int) := of_decide_eq_true (by first | (with_reducible assumption) | assumption); obtain ⟨ad247, A247_4, c247_4, A247_9, c247_9, A247_14, c247_14, e247, hx247_0, hx247_1, hx247_2, hx247_3, hx247_4, hx247_5, hx247_6, hx247_7, hx247_8, hx247_9, hx247_10, hx247_11, hx247_12, hx247_13, hx247_14, hl247_4, hi247_4, hl247_9, hi247_9, hl247_14, hi247_14⟩ := at_T47 HR0_2.out x10_3 p247 q247; obtain rfl : ad244 = ad247 := (by injection e247); replace hx247_0 := (HB.out.cell (World.block_lt_of_cell? w _ hx247_0)).trans hx247_0; replace hx247_1 := (HB.out.cell (World.block_lt_of_cell? w _ hx247_1)).trans hx247_1; replace hx247_2 := (HB.out.cell (World.block_lt_of_cell? w _ hx247_2)).trans hx247_2; replace hx247_3 := (HB.out.cell (World.block_lt_of_cell? w _ hx247_3)).trans hx247_3; replace hx247_4 := (HB.out.cell (World.block_lt_of_cell? w _ hx247_4)).trans hx247_4; replace hx247_5 := (HB.out.cell (World.block_lt_of_cell? w _ hx247_5)).trans hx247_5; replace hx247_6 := (HB.out.cell (World.block_lt_of_cell? w _ hx247_6)).trans hx247_6; replace hx247_7 := (HB.out.cell (World.block_lt_of_cell? w _ hx247_7)).trans hx247_7; replace hx247_8 := (HB.out.cell (World.block_lt_of_cell? w _ hx247_8)).trans hx247_8; replace hx247_9 := (HB.out.cell (World.block_lt_of_cell? w _ hx247_9)).trans hx247_9; replace hx247_10 := (HB.out.cell (World.block_lt_of_cell? w _ hx247_10)).trans hx247_10; replace hx247_11 := (HB.out.cell (World.block_lt_of_cell? w _ hx247_11)).trans hx247_11; replace hx247_12 := (HB.out.cell (World.block_lt_of_cell? w _ hx247_12)).trans hx247_12; replace hx247_13 := (HB.out.cell (World.block_lt_of_cell? w _ hx247_13)).trans hx247_13; replace hx247_14 := (HB.out.cell (World.block_lt_of_cell? w _ hx247_14)).trans hx247_14; have HR247_4 := Aside0.mk hi247_4; have HC247_4 := Aside0.mk hl247_4; clear hi247_4 hl247_4; have HR247_9 := Aside0.mk hi247_9; have HC247_9 := Aside0.mk hl247_9; clear hi247_9 hl247_9; have HR247_14 := Aside0.mk hi247_14; have HC247_14 := Aside0.mk hl247_14; clear hi247_14 hl247_14; replace p247 := eq_true p247; replace q247 := eq_true q247) | ((with_reducible refine gate_callee (f := 8) rfl ?_); refine goesL_ (some 88) rfl rfl Try.func8 (by kernel_rfl) rfl #[.agg #[.int .i64 ((rd_T47 l0_2 x10_3).f2.f0), .int .u8 ((rd_T47 l0_2 x10_3).f2.f1.f0), .int .i64 ((rd_T47 l0_2 x10_3).f2.f1.f1), .string ((rd_T47 l0_2 x10_3).f2.f1.f2), .slice A247_14 ((rd_T47 l0_2 x10_3).f2.f2).length c247_14], .int .i64 x5_11, .int .u8 0] rfl (by (try simp only [List.map_toArray, List.map_cons, List.map_nil]); first | done | rfl | (simp only [List.length_drop, List.length_take]; rfl)) ?_; (with_reducible refine (check_Kind.calls k3 ((rd_T47 l0_2 x10_3).f2.f0) ((rd_T47 l0_2 x10_3).f2.f1.f0) ((rd_T47 l0_2 x10_3).f2.f1.f1) ((rd_T47 l0_2 x10_3).f2.f1.f2) _ _ ((rd_T47 l0_2 x10_3).f2.f2) x5_11 0 t248 t249 _ ?side1 ?side2 A39.out).mono ?_); (case side1 => repeat (first | exact (Kd.C_below HR247_14.out HB.out) | (with_reducible refine Kd.C_alloc ?_ _) | (with_reducible refine Kd.C_drewN ?_ _) | (with_reducible refine Kd.C_drew ?_))); (case side2 => exact HC247_14.out); rintro e w52 ⟨rfl, hb⟩; refine ⟨_, rfl, ?_⟩; have n0_ := Aside0.mk (blk_below (g := gb229) (o := .cells #[.string a0_0, .int .i64 a0_1, .slice (some ad244) l0_2.length c0_2, .int .i64 a0_3, .int .i64 a0_4, .int .u8 a0_5, .int .i64 a0_6, .string a0_7, .slice A0_8 l0_8.length c0_8, .bool a0_9, .int .i64 a0_10] 38 (0, 0)) (by (with_reducible repeat (first | refine blk_drewN ?_ _ | refine blk_drew ?_ | refine blk_alloc ?_ _)); exact BK229.out) hb); have n1_ := Aside0.mk (below_step (by repeat (first | (with_reducible first | exact HB.out | apply below_alloc | apply pw_below_drewN | apply below_drew1 | refine below_set ?_ GE229.out) | exact HB.out)) hb); clear BK229; clear HB; have BK229 := n0_; have HB := n1_; clear n0_ n1_; (try clear hb); (try clear hb2); (try clear hk); (try clear hi)) | ((with_reducible refine gate_callee (f := 10) rfl ?_); refine goesL_ (some 92) rfl rfl Try.func10 (by kernel_rfl) rfl #[.int .i64 t246] rfl (by (try simp only [List.map_toArray, List.map_cons, List.map_nil]); first | done | rfl | (simp only [List.length_drop, List.length_take]; rfl)) ?_; (with_reducible refine (gristmilllaw12_code.calls t246 t250 _ A40.out).mono ?_); rintro e w' ⟨rfl, ⟨nd, rfl⟩⟩; refine ⟨_, rfl, ?_⟩) | ((with_reducible refine gate_callee (f := 10) rfl ?_); refine goesL_ (some 94) rfl rfl Try.func10 (by kernel_rfl) rfl #[.int .i64 t249] rfl (by (try simp only [List.map_toArray, List.map_cons, List.map_nil]); first | done | rfl | (simp only [List.length_drop, List.length_take]; rfl)) ?_; (with_reducible refine (gristmilllaw12_code.calls t249 t251 _ A41.out).mono ?_); rintro e w' ⟨rfl, ⟨nd, rfl⟩⟩; refine ⟨_, rfl, ?_⟩))
                              go_ret
                              exact ⟨by first | rfl | (simp [errW_none, errW_some] <;> rfl) | (simp [*, errW_none, errW_some] <;> rfl), by repeat (first | (with_reducible first | exact HB.out | apply below_alloc | apply pw_below_drewN | apply below_drew1 | refine below_set ?_ GE229.out) | exact HB.out)⟩
                          · rw [if_neg c43] at H
                            have c43b0 : (t245 == 1) = false := beq_eq_false_iff_ne.mpr c43
                            have c43b1 : (t245 != 1) = true := bne_iff_ne.mpr c43
                            obtain rfl := Option.some.inj H
                            have hcz53_0 : wr.cell? ⟨gb229, 0, none⟩ = some (.string a0_0) := (blk_cell BK229.out 0).trans rfl
                            have hcz53_1 : wr.cell? ⟨gb229, 1, none⟩ = some (.int .i64 a0_1) := (blk_cell BK229.out 1).trans rfl
                            have hcz53_2 : wr.cell? ⟨gb229, 2, none⟩ = some (.slice A0_2 l0_2.length c0_2) := (blk_cell BK229.out 2).trans rfl
                            have hcz53_3 : wr.cell? ⟨gb229, 3, none⟩ = some (.int .i64 a0_3) := (blk_cell BK229.out 3).trans rfl
                            have hcz53_4 : wr.cell? ⟨gb229, 4, none⟩ = some (.int .i64 a0_4) := (blk_cell BK229.out 4).trans rfl
                            have hcz53_5 : wr.cell? ⟨gb229, 5, none⟩ = some (.int .u8 a0_5) := (blk_cell BK229.out 5).trans rfl
                            have hcz53_6 : wr.cell? ⟨gb229, 6, none⟩ = some (.int .i64 a0_6) := (blk_cell BK229.out 6).trans rfl
                            have hcz53_7 : wr.cell? ⟨gb229, 7, none⟩ = some (.string a0_7) := (blk_cell BK229.out 7).trans rfl
                            have hcz53_8 : wr.cell? ⟨gb229, 8, none⟩ = some (.slice A0_8 l0_8.length c0_8) := (blk_cell BK229.out 8).trans rfl
                            have hcz53_9 : wr.cell? ⟨gb229, 9, none⟩ = some (.bool a0_9) := (blk_cell BK229.out 9).trans rfl
                            have hcz53_10 : wr.cell? ⟨gb229, 10, none⟩ = some (.int .i64 a0_10) := (blk_cell BK229.out 10).trans rfl
                            have hfz53_0 := blk_frozen BK229.out 0
                            have hfz53_1 := blk_frozen BK229.out 1
                            have hfz53_2 := blk_frozen BK229.out 2
                            have hfz53_3 := blk_frozen BK229.out 3
                            have hfz53_4 := blk_frozen BK229.out 4
                            have hfz53_5 := blk_frozen BK229.out 5
                            have hfz53_6 := blk_frozen BK229.out 6
                            have hfz53_7 := blk_frozen BK229.out 7
                            have hfz53_8 := blk_frozen BK229.out 8
                            have hfz53_9 := blk_frozen BK229.out 9
                            have hfz53_10 := blk_frozen BK229.out 10
                            have p244 : 0 ≤ (x10_3 : Int) := of_decide_eq_true (by first | (with_reducible assumption) | assumption)
                            have q244 : x10_3 < (l0_2.length : Int) := of_decide_eq_true (by first | (with_reducible assumption) | assumption)
                            obtain ⟨ad244, A244_4, c244_4, A244_9, c244_9, A244_14, c244_14, e244, hx244_0, hx244_1, hx244_2, hx244_3, hx244_4, hx244_5, hx244_6, hx244_7, hx244_8, hx244_9, hx244_10, hx244_11, hx244_12, hx244_13, hx244_14, hl244_4, hi244_4, hl244_9, hi244_9, hl244_14, hi244_14⟩ := at_T47 HR0_2.out x10_3 p244 q244
                            cases e244
                            replace hx244_0 := (HB.out.cell (World.block_lt_of_cell? w _ hx244_0)).trans hx244_0
                            replace hx244_1 := (HB.out.cell (World.block_lt_of_cell? w _ hx244_1)).trans hx244_1
                            replace hx244_2 := (HB.out.cell (World.block_lt_of_cell? w _ hx244_2)).trans hx244_2
                            replace hx244_3 := (HB.out.cell (World.block_lt_of_cell? w _ hx244_3)).trans hx244_3
                            replace hx244_4 := (HB.out.cell (World.block_lt_of_cell? w _ hx244_4)).trans hx244_4
                            replace hx244_5 := (HB.out.cell (World.block_lt_of_cell? w _ hx244_5)).trans hx244_5
                            replace hx244_6 := (HB.out.cell (World.block_lt_of_cell? w _ hx244_6)).trans hx244_6
                            replace hx244_7 := (HB.out.cell (World.block_lt_of_cell? w _ hx244_7)).trans hx244_7
                            replace hx244_8 := (HB.out.cell (World.block_lt_of_cell? w _ hx244_8)).trans hx244_8
                            replace hx244_9 := (HB.out.cell (World.block_lt_of_cell? w _ hx244_9)).trans hx244_9
                            replace hx244_10 := (HB.out.cell (World.block_lt_of_cell? w _ hx244_10)).trans hx244_10
                            replace hx244_11 := (HB.out.cell (World.block_lt_of_cell? w _ hx244_11)).trans hx244_11
                            replace hx244_12 := (HB.out.cell (World.block_lt_of_cell? w _ hx244_12)).trans hx244_12
                            replace hx244_13 := (HB.out.cell (World.block_lt_of_cell? w _ hx244_13)).trans hx244_13
                            replace hx244_14 := (HB.out.cell (World.block_lt_of_cell? w _ hx244_14)).trans hx244_14
                            have HR244_4 := Aside0.mk hi244_4
                            have HC244_4 := Aside0.mk hl244_4
                            clear hi244_4 hl244_4
                            have HR244_9 := Aside0.mk hi244_9
                            have HC244_9 := Aside0.mk hl244_9
                            clear hi244_9 hl244_9
                            have HR244_14 := Aside0.mk hi244_14
                            have HC244_14 := Aside0.mk hl244_14
                            clear hi244_14 hl244_14
                            replace p244 := eq_true p244
                            replace q244 := eq_true q244
                            go_wp2_with (first | ((with_reducible refine gate_callee (f := 8) rfl ?_); refine goesL_ (some 77) rfl rfl Try.func8 (by kernel_rfl) rfl #[.agg #[.int .i64 ((rd_T47 l0_2 x10_3).f0.f0), .int .u8 ((rd_T47 l0_2 x10_3).f0.f1.f0), .int .i64 ((rd_T47 l0_2 x10_3).f0.f1.f1), .string ((rd_T47 l0_2 x10_3).f0.f1.f2), .slice A244_4 ((rd_T47 l0_2 x10_3).f0.f2).length c244_4], .int .i64 x5_11, .int .u8 0] rfl (by (try simp only [List.map_toArray, List.map_cons, List.map_nil]); first | done | rfl | (simp only [List.length_drop, List.length_take]; rfl)) ?_; (with_reducible refine (check_Kind.calls k3 ((rd_T47 l0_2 x10_3).f0.f0) ((rd_T47 l0_2 x10_3).f0.f1.f0) ((rd_T47 l0_2 x10_3).f0.f1.f1) ((rd_T47 l0_2 x10_3).f0.f1.f2) _ _ ((rd_T47 l0_2 x10_3).f0.f2) x5_11 0 t245 t246 _ ?side1 ?side2 A38.out).mono ?_); (case side1 => repeat (first | exact (Kd.C_below HR244_4.out HB.out) | (with_reducible refine Kd.C_alloc ?_ _) | (with_reducible refine Kd.C_drewN ?_ _) | (with_reducible refine Kd.C_drew ?_))); (case side2 => exact HC244_4.out); rintro e w54 ⟨rfl, hb⟩; refine ⟨_, rfl, ?_⟩; have n0_ := Aside0.mk (blk_below (g := gb229) (o := .cells #[.string a0_0, .int .i64 a0_1, .slice (some ad244) l0_2.length c0_2, .int .i64 a0_3, .int .i64 a0_4, .int .u8 a0_5, .int .i64 a0_6, .string a0_7, .slice A0_8 l0_8.length c0_8, .bool a0_9, .int .i64 a0_10] 38 (0, 0)) (by (with_reducible repeat (first | refine blk_drewN ?_ _ | refine blk_drew ?_ | refine blk_alloc ?_ _)); exact BK229.out) hb); have n1_ := Aside0.mk (below_step (by repeat (first | (with_reducible first | exact HB.out | apply below_alloc | apply pw_below_drewN | apply below_drew1 | refine below_set ?_ GE229.out) | exact HB.out)) hb); clear BK229; clear HB; have BK229 := n0_; have HB := n1_; clear n0_ n1_; (try clear hb); (try clear hb2); (try clear hk); (try clear hi); have hcz55_0 : w54.cell? ⟨gb229, 0, none⟩ = some (.string a0_0) := (blk_cell BK229.out 0).trans rfl; have hcz55_1 : w54.cell? ⟨gb229, 1, none⟩ = some (.int .i64 a0_1) := (blk_cell BK229.out 1).trans rfl; have hcz55_2 : w54.cell? ⟨gb229, 2, none⟩ = some (.slice (some ad244) l0_2.length c0_2) := (blk_cell BK229.out 2).trans rfl; have hcz55_3 : w54.cell? ⟨gb229, 3, none⟩ = some (.int .i64 a0_3) := (blk_cell BK229.out 3).trans rfl; have hcz55_4 : w54.cell? ⟨gb229, 4, none⟩ = some (.int .i64 a0_4) := (blk_cell BK229.out 4).trans rfl; have hcz55_5 : w54.cell? ⟨gb229, 5, none⟩ = some (.int .u8 a0_5) := (blk_cell BK229.out 5).trans rfl; have hcz55_6 : w54.cell? ⟨gb229, 6, none⟩ = some (.int .i64 a0_6) := (blk_cell BK229.out 6).trans rfl; have hcz55_7 : w54.cell? ⟨gb229, 7, none⟩ = some (.string a0_7) := (blk_cell BK229.out 7).trans rfl; have hcz55_8 : w54.cell? ⟨gb229, 8, none⟩ = some (.slice A0_8 l0_8.length c0_8) := (blk_cell BK229.out 8).trans rfl; have hcz55_9 : w54.cell? ⟨gb229, 9, none⟩ = some (.bool a0_9) := (blk_cell BK229.out 9).trans rfl; have hcz55_10 : w54.cell? ⟨gb229, 10, none⟩ = some (.int .i64 a0_10) := (blk_cell BK229.out 10).trans rfl; have hfz55_0 := blk_frozen BK229.out 0; have hfz55_1 := blk_frozen BK229.out 1; have hfz55_2 := blk_frozen BK229.out 2; have hfz55_3 := blk_frozen BK229.out 3; have hfz55_4 := blk_frozen BK229.out 4; have hfz55_5 := blk_frozen BK229.out 5; have hfz55_6 := blk_frozen BK229.out 6; have hfz55_7 := blk_frozen BK229.out 7; have hfz55_8 := blk_frozen BK229.out 8; have hfz55_9 := blk_frozen BK229.out 9; have hfz55_10 := blk_frozen BK229.out 10; have p247 : 0 ≤ (x10_3 : Int) := of_decide_eq_true (by first | (with_reducible assumption) | assumption); have q247 : x10_3 < (l0_2.length : Int) := of_decide_eq_true (by first | (with_reducible assumption) | assumption); obtain ⟨ad247, A247_4, c247_4, A247_9, c247_9, A247_14, c247_14, e247, hx247_0, hx247_1, hx247_2, hx247_3, hx247_4, hx247_5, hx247_6, hx247_7, hx247_8, hx247_9, hx247_10, hx247_11, hx247_12, hx247_13, hx247_14, hl247_4, hi247_4, hl247_9, hi247_9, hl247_14, hi247_14⟩ := at_T47 HR0_2.out x10_3 p247 q247; obtain rfl : ad244 = ad247 := (by injection e247); replace hx247_0 := (HB.out.cell (World.block_lt_of_cell? w _ hx247_0)).trans hx247_0; replace hx247_1 := (HB.out.cell (World.block_lt_of_cell? w _ hx247_1)).trans hx247_1; replace hx247_2 := (HB.out.cell (World.block_lt_of_cell? w _ hx247_2)).trans hx247_2; replace hx247_3 := (HB.out.cell (World.block_lt_of_cell? w _ hx247_3)).trans hx247_3; replace hx247_4 := (HB.out.cell (World.block_lt_of_cell? w _ hx247_4)).trans hx247_4; replace hx247_5 := (HB.out.cell (World.block_lt_of_cell? w _ hx247_5)).trans hx247_5; replace hx247_6 := (HB.out.cell (World.block_lt_of_cell? w _ hx247_6)).trans hx247_6; replace hx247_7 := (HB.out.cell (World.block_lt_of_cell? w _ hx247_7)).trans hx247_7; replace hx247_8 := (HB.out.cell (World.block_lt_of_cell? w _ hx247_8)).trans hx247_8; replace hx247_9 := (HB.out.cell (World.block_lt_of_cell? w _ hx247_9)).trans hx247_9; replace hx247_10 := (HB.out.cell (World.block_lt_of_cell? w _ hx247_10)).trans hx247_10; replace hx247_11 := (HB.out.cell (World.block_lt_of_cell? w _ hx247_11)).trans hx247_11; replace hx247_12 := (HB.out.cell (World.block_lt_of_cell? w _ hx247_12)).trans hx247_12; replace hx247_13 := (HB.out.cell (World.block_lt_of_cell? w _ hx247_13)).trans hx247_13; replace hx247_14 := (HB.out.cell (World.block_lt_of_cell? w _ hx247_14)).trans hx247_14; have HR247_4 := Aside0.mk hi247_4; have HC247_4 := Aside0.mk hl247_4; clear hi247_4 hl247_4; have HR247_9 := Aside0.mk hi247_9; have HC247_9 := Aside0.mk hl247_9; clear hi247_9 hl247_9; have HR247_14 := Aside0.mk hi247_14; have HC247_14 := Aside0.mk hl247_14; clear hi247_14 hl247_14; replace p247 := eq_true p247; replace q247 := eq_true q247) | ((with_reducible refine gate_callee (f := 8) rfl ?_); refine goesL_ (some 88) rfl rfl Try.func8 (by kernel_rfl) rfl #[.agg #[.int .i64 ((rd_T47 l0_2 x10_3).f2.f0), .int .u8 ((rd_T47 l0_2 x10_3).f2.f1.f0), .int .i64 ((rd_T47 l0_2 x10_3).f2.f1.f1), .string ((rd_T47 l0_2 x10_3).f2.f1.f2), .slice A247_14 ((rd_T47 l0_2 x10_3).f2.f2).length c247_14], .int .i64 x5_11, .int .u8 0] rfl (by (try simp only [List.map_toArray, List.map_cons, List.map_nil]); first | done | rfl | (simp only [List.length_drop, List.length_take]; rfl)) ?_; (with_reducible refine (check_Kind.calls k3 ((rd_T47 l0_2 x10_3).f2.f0) ((rd_T47 l0_2 x10_3).f2.f1.f0) ((rd_T47 l0_2 x10_3).f2.f1.f1) ((rd_T47 l0_2 x10_3).f2.f1.f2) _ _ ((rd_T47 l0_2 x10_3).f2.f2) x5_11 0 t248 t249 _ ?side1 ?side2 A39.out).mono ?_); (case side1 => repeat (first | exact (Kd.C_below HR247_14.out HB.out) | (with_reducible refine Kd.C_alloc ?_ _) | (with_reducible refine Kd.C_drewN ?_ _) | (with_reducible refine Kd.C_drew ?_))); (case side2 => exact HC247_14.out); rintro e w56 ⟨rfl, hb⟩; refine ⟨_, rfl, ?_⟩; have n0_ := Aside0.mk (blk_below (g := gb229) (o := .cells #[.string a0_0, .int .i64 a0_1, .slice (some ad244) l0_2.length c0_2, .int .i64 a0_3, .int .i64 a0_4, .int .u8 a0_5, .int .i64 a0_6, .string a0_7, .slice A0_8 l0_8.length c0_8, .bool a0_9, .int .i64 a0_10] 38 (0, 0)) (by (with_reducible repeat (first | refine blk_drewN ?_ _ | refine blk_drew ?_ | refine blk_alloc ?_ _)); exact BK229.out) hb); have n1_ := Aside0.mk (below_step (by repeat (first | (with_reducible first | exact HB.out | apply below_alloc | apply pw_below_drewN | apply below_drew1 | refine below_set ?_ GE229.out) | exact HB.out)) hb); clear BK229; clear HB; have BK229 := n0_; have HB := n1_; clear n0_ n1_; (try clear hb); (try clear hb2); (try clear hk); (try clear hi)) | ((with_reducible refine gate_callee (f := 10) rfl ?_); refine goesL_ (some 92) rfl rfl Try.func10 (by kernel_rfl) rfl #[.int .i64 t246] rfl (by (try simp only [List.map_toArray, List.map_cons, List.map_nil]); first | done | rfl | (simp only [List.length_drop, List.length_take]; rfl)) ?_; (with_reducible refine (gristmilllaw12_code.calls t246 t250 _ A40.out).mono ?_); rintro e w' ⟨rfl, ⟨nd, rfl⟩⟩; refine ⟨_, rfl, ?_⟩) | ((with_reducible refine gate_callee (f := 10) rfl ?_); refine goesL_ (some 94) rfl rfl Try.func10 (by kernel_rfl) rfl #[.int .i64 t249] rfl (by (try simp only [List.map_toArray, List.map_cons, List.map_nil]); first | done | rfl | (simp only [List.length_drop, List.length_take]; rfl)) ?_; (with_reducible refine (gristmilllaw12_code.calls t249 t251 _ A41.out).mono ?_); rintro e w' ⟨rfl, ⟨nd, rfl⟩⟩; refine ⟨_, rfl, ?_⟩))
                            go_ret
                            exact ⟨by first | rfl | (simp [errW_none, errW_some] <;> rfl) | (simp [*, errW_none, errW_some] <;> rfl), by repeat (first | (with_reducible first | exact HB.out | apply below_alloc | apply pw_below_drewN | apply below_drew1 | refine below_set ?_ GE229.out) | exact HB.out)⟩
                        · rw [if_neg c42] at H
                          have c42b0 : ((wrap64 (t250 + t251)) == 0) = false := beq_eq_false_iff_ne.mpr c42
                          have c42b1 : ((wrap64 (t250 + t251)) != 0) = true := bne_iff_ne.mpr c42
                          obtain rfl := Option.some.inj H
                          have hcz57_0 : wr.cell? ⟨gb229, 0, none⟩ = some (.string a0_0) := (blk_cell BK229.out 0).trans rfl
                          have hcz57_1 : wr.cell? ⟨gb229, 1, none⟩ = some (.int .i64 a0_1) := (blk_cell BK229.out 1).trans rfl
                          have hcz57_2 : wr.cell? ⟨gb229, 2, none⟩ = some (.slice A0_2 l0_2.length c0_2) := (blk_cell BK229.out 2).trans rfl
                          have hcz57_3 : wr.cell? ⟨gb229, 3, none⟩ = some (.int .i64 a0_3) := (blk_cell BK229.out 3).trans rfl
                          have hcz57_4 : wr.cell? ⟨gb229, 4, none⟩ = some (.int .i64 a0_4) := (blk_cell BK229.out 4).trans rfl
                          have hcz57_5 : wr.cell? ⟨gb229, 5, none⟩ = some (.int .u8 a0_5) := (blk_cell BK229.out 5).trans rfl
                          have hcz57_6 : wr.cell? ⟨gb229, 6, none⟩ = some (.int .i64 a0_6) := (blk_cell BK229.out 6).trans rfl
                          have hcz57_7 : wr.cell? ⟨gb229, 7, none⟩ = some (.string a0_7) := (blk_cell BK229.out 7).trans rfl
                          have hcz57_8 : wr.cell? ⟨gb229, 8, none⟩ = some (.slice A0_8 l0_8.length c0_8) := (blk_cell BK229.out 8).trans rfl
                          have hcz57_9 : wr.cell? ⟨gb229, 9, none⟩ = some (.bool a0_9) := (blk_cell BK229.out 9).trans rfl
                          have hcz57_10 : wr.cell? ⟨gb229, 10, none⟩ = some (.int .i64 a0_10) := (blk_cell BK229.out 10).trans rfl
                          have hfz57_0 := blk_frozen BK229.out 0
                          have hfz57_1 := blk_frozen BK229.out 1
                          have hfz57_2 := blk_frozen BK229.out 2
                          have hfz57_3 := blk_frozen BK229.out 3
                          have hfz57_4 := blk_frozen BK229.out 4
                          have hfz57_5 := blk_frozen BK229.out 5
                          have hfz57_6 := blk_frozen BK229.out 6
                          have hfz57_7 := blk_frozen BK229.out 7
                          have hfz57_8 := blk_frozen BK229.out 8
                          have hfz57_9 := blk_frozen BK229.out 9
                          have hfz57_10 := blk_frozen BK229.out 10
                          have p244 : 0 ≤ (x10_3 : Int) := of_decide_eq_true (by first | (with_reducible assumption) | assumption)
                          have q244 : x10_3 < (l0_2.length : Int) := of_decide_eq_true (by first | (with_reducible assumption) | assumption)
                          obtain ⟨ad244, A244_4, c244_4, A244_9, c244_9, A244_14, c244_14, e244, hx244_0, hx244_1, hx244_2, hx244_3, hx244_4, hx244_5, hx244_6, hx244_7, hx244_8, hx244_9, hx244_10, hx244_11, hx244_12, hx244_13, hx244_14, hl244_4, hi244_4, hl244_9, hi244_9, hl244_14, hi244_14⟩ := at_T47 HR0_2.out x10_3 p244 q244
                          cases e244
                          replace hx244_0 := (HB.out.cell (World.block_lt_of_cell? w _ hx244_0)).trans hx244_0
                          replace hx244_1 := (HB.out.cell (World.block_lt_of_cell? w _ hx244_1)).trans hx244_1
                          replace hx244_2 := (HB.out.cell (World.block_lt_of_cell? w _ hx244_2)).trans hx244_2
                          replace hx244_3 := (HB.out.cell (World.block_lt_of_cell? w _ hx244_3)).trans hx244_3
                          replace hx244_4 := (HB.out.cell (World.block_lt_of_cell? w _ hx244_4)).trans hx244_4
                          replace hx244_5 := (HB.out.cell (World.block_lt_of_cell? w _ hx244_5)).trans hx244_5
                          replace hx244_6 := (HB.out.cell (World.block_lt_of_cell? w _ hx244_6)).trans hx244_6
                          replace hx244_7 := (HB.out.cell (World.block_lt_of_cell? w _ hx244_7)).trans hx244_7
                          replace hx244_8 := (HB.out.cell (World.block_lt_of_cell? w _ hx244_8)).trans hx244_8
                          replace hx244_9 := (HB.out.cell (World.block_lt_of_cell? w _ hx244_9)).trans hx244_9
                          replace hx244_10 := (HB.out.cell (World.block_lt_of_cell? w _ hx244_10)).trans hx244_10
                          replace hx244_11 := (HB.out.cell (World.block_lt_of_cell? w _ hx244_11)).trans hx244_11
                          replace hx244_12 := (HB.out.cell (World.block_lt_of_cell? w _ hx244_12)).trans hx244_12
                          replace hx244_13 := (HB.out.cell (World.block_lt_of_cell? w _ hx244_13)).trans hx244_13
                          replace hx244_14 := (HB.out.cell (World.block_lt_of_cell? w _ hx244_14)).trans hx244_14
                          have HR244_4 := Aside0.mk hi244_4
                          have HC244_4 := Aside0.mk hl244_4
                          clear hi244_4 hl244_4
                          have HR244_9 := Aside0.mk hi244_9
                          have HC244_9 := Aside0.mk hl244_9
                          clear hi244_9 hl244_9
                          have HR244_14 := Aside0.mk hi244_14
                          have HC244_14 := Aside0.mk hl244_14
                          clear hi244_14 hl244_14
                          replace p244 := eq_true p244
                          replace q244 := eq_true q244
                          go_wp2_with (first | ((with_reducible refine gate_callee (f := 8) rfl ?_); refine goesL_ (some 77) rfl rfl Try.func8 (by kernel_rfl) rfl #[.agg #[.int .i64 ((rd_T47 l0_2 x10_3).f0.f0), .int .u8 ((rd_T47 l0_2 x10_3).f0.f1.f0), .int .i64 ((rd_T47 l0_2 x10_3).f0.f1.f1), .string ((rd_T47 l0_2 x10_3).f0.f1.f2), .slice A244_4 ((rd_T47 l0_2 x10_3).f0.f2).length c244_4], .int .i64 x5_11, .int .u8 0] rfl (by (try simp only [List.map_toArray, List.map_cons, List.map_nil]); first | done | rfl | (simp only [List.length_drop, List.length_take]; rfl)) ?_; (with_reducible refine (check_Kind.calls k3 ((rd_T47 l0_2 x10_3).f0.f0) ((rd_T47 l0_2 x10_3).f0.f1.f0) ((rd_T47 l0_2 x10_3).f0.f1.f1) ((rd_T47 l0_2 x10_3).f0.f1.f2) _ _ ((rd_T47 l0_2 x10_3).f0.f2) x5_11 0 t245 t246 _ ?side1 ?side2 A38.out).mono ?_); (case side1 => repeat (first | exact (Kd.C_below HR244_4.out HB.out) | (with_reducible refine Kd.C_alloc ?_ _) | (with_reducible refine Kd.C_drewN ?_ _) | (with_reducible refine Kd.C_drew ?_))); (case side2 => exact HC244_4.out); rintro e w58 ⟨rfl, hb⟩; refine ⟨_, rfl, ?_⟩; have n0_ := Aside0.mk (blk_below (g := gb229) (o := .cells #[.string a0_0, .int .i64 a0_1, .slice (some ad244) l0_2.length c0_2, .int .i64 a0_3, .int .i64 a0_4, .int .u8 a0_5, .int .i64 a0_6, .string a0_7, .slice A0_8 l0_8.length c0_8, .bool a0_9, .int .i64 a0_10] 38 (0, 0)) (by (with_reducible repeat (first | refine blk_drewN ?_ _ | refine blk_drew ?_ | refine blk_alloc ?_ _)); exact BK229.out) hb); have n1_ := Aside0.mk (below_step (by repeat (first | (with_reducible first | exact HB.out | apply below_alloc | apply pw_below_drewN | apply below_drew1 | refine below_set ?_ GE229.out) | exact HB.out)) hb); clear BK229; clear HB; have BK229 := n0_; have HB := n1_; clear n0_ n1_; (try clear hb); (try clear hb2); (try clear hk); (try clear hi); have hcz59_0 : w58.cell? ⟨gb229, 0, none⟩ = some (.string a0_0) := (blk_cell BK229.out 0).trans rfl; have hcz59_1 : w58.cell? ⟨gb229, 1, none⟩ = some (.int .i64 a0_1) := (blk_cell BK229.out 1).trans rfl; have hcz59_2 : w58.cell? ⟨gb229, 2, none⟩ = some (.slice (some ad244) l0_2.length c0_2) := (blk_cell BK229.out 2).trans rfl; have hcz59_3 : w58.cell? ⟨gb229, 3, none⟩ = some (.int .i64 a0_3) := (blk_cell BK229.out 3).trans rfl; have hcz59_4 : w58.cell? ⟨gb229, 4, none⟩ = some (.int .i64 a0_4) := (blk_cell BK229.out 4).trans rfl; have hcz59_5 : w58.cell? ⟨gb229, 5, none⟩ = some (.int .u8 a0_5) := (blk_cell BK229.out 5).trans rfl; have hcz59_6 : w58.cell? ⟨gb229, 6, none⟩ = some (.int .i64 a0_6) := (blk_cell BK229.out 6).trans rfl; have hcz59_7 : w58.cell? ⟨gb229, 7, none⟩ = some (.string a0_7) := (blk_cell BK229.out 7).trans rfl; have hcz59_8 : w58.cell? ⟨gb229, 8, none⟩ = some (.slice A0_8 l0_8.length c0_8) := (blk_cell BK229.out 8).trans rfl; have hcz59_9 : w58.cell? ⟨gb229, 9, none⟩ = some (.bool a0_9) := (blk_cell BK229.out 9).trans rfl; have hcz59_10 : w58.cell? ⟨gb229, 10, none⟩ = some (.int .i64 a0_10) := (blk_cell BK229.out 10).trans rfl; have hfz59_0 := blk_frozen BK229.out 0; have hfz59_1 := blk_frozen BK229.out 1; have hfz59_2 := blk_frozen BK229.out 2; have hfz59_3 := blk_frozen BK229.out 3; have hfz59_4 := blk_frozen BK229.out 4; have hfz59_5 := blk_frozen BK229.out 5; have hfz59_6 := blk_frozen BK229.out 6; have hfz59_7 := blk_frozen BK229.out 7; have hfz59_8 := blk_frozen BK229.out 8; have hfz59_9 := blk_frozen BK229.out 9; have hfz59_10 := blk_frozen BK229.out 10; have p247 : 0 ≤ (x10_3 : Int) := of_decide_eq_true (by first | (with_reducible assumption) | assumption); have q247 : x10_3 < (l0_2.length : Int) := of_decide_eq_true (by first | (with_reducible assumption) | assumption); obtain ⟨ad247, A247_4, c247_4, A247_9, c247_9, A247_14, c247_14, e247, hx247_0, hx247_1, hx247_2, hx247_3, hx247_4, hx247_5, hx247_6, hx247_7, hx247_8, hx247_9, hx247_10, hx247_11, hx247_12, hx247_13, hx247_14, hl247_4, hi247_4, hl247_9, hi247_9, hl247_14, hi247_14⟩ := at_T47 HR0_2.out x10_3 p247 q247; obtain rfl : ad244 = ad247 := (by injection e247); replace hx247_0 := (HB.out.cell (World.block_lt_of_cell? w _ hx247_0)).trans hx247_0; replace hx247_1 := (HB.out.cell (World.block_lt_of_cell? w _ hx247_1)).trans hx247_1; replace hx247_2 := (HB.out.cell (World.block_lt_of_cell? w _ hx247_2)).trans hx247_2; replace hx247_3 := (HB.out.cell (World.block_lt_of_cell? w _ hx247_3)).trans hx247_3; replace hx247_4 := (HB.out.cell (World.block_lt_of_cell? w _ hx247_4)).trans hx247_4; replace hx247_5 := (HB.out.cell (World.block_lt_of_cell? w _ hx247_5)).trans hx247_5; replace hx247_6 := (HB.out.cell (World.block_lt_of_cell? w _ hx247_6)).trans hx247_6; replace hx247_7 := (HB.out.cell (World.block_lt_of_cell? w _ hx247_7)).trans hx247_7; replace hx247_8 := (HB.out.cell (World.block_lt_of_cell? w _ hx247_8)).trans hx247_8; replace hx247_9 := (HB.out.cell (World.block_lt_of_cell? w _ hx247_9)).trans hx247_9; replace hx247_10 := (HB.out.cell (World.block_lt_of_cell? w _ hx247_10)).trans hx247_10; replace hx247_11 := (HB.out.cell (World.block_lt_of_cell? w _ hx247_11)).trans hx247_11; replace hx247_12 := (HB.out.cell (World.block_lt_of_cell? w _ hx247_12)).trans hx247_12; replace hx247_13 := (HB.out.cell (World.block_lt_of_cell? w _ hx247_13)).trans hx247_13; replace hx247_14 := (HB.out.cell (World.block_lt_of_cell? w _ hx247_14)).trans hx247_14; have HR247_4 := Aside0.mk hi247_4; have HC247_4 := Aside0.mk hl247_4; clear hi247_4 hl247_4; have HR247_9 := Aside0.mk hi247_9; have HC247_9 := Aside0.mk hl247_9; clear hi247_9 hl247_9; have HR247_14 := Aside0.mk hi247_14; have HC247_14 := Aside0.mk hl247_14; clear hi247_14 hl247_14; replace p247 := eq_true p247; replace q247 := eq_true q247) | ((with_reducible refine gate_callee (f := 8) rfl ?_); refine goesL_ (some 88) rfl rfl Try.func8 (by kernel_rfl) rfl #[.agg #[.int .i64 ((rd_T47 l0_2 x10_3).f2.f0), .int .u8 ((rd_T47 l0_2 x10_3).f2.f1.f0), .int .i64 ((rd_T47 l0_2 x10_3).f2.f1.f1), .string ((rd_T47 l0_2 x10_3).f2.f1.f2), .slice A247_14 ((rd_T47 l0_2 x10_3).f2.f2).length c247_14], .int .i64 x5_11, .int .u8 0] rfl (by (try simp only [List.map_toArray, List.map_cons, List.map_nil]); first | done | rfl | (simp only [List.length_drop, List.length_take]; rfl)) ?_; (with_reducible refine (check_Kind.calls k3 ((rd_T47 l0_2 x10_3).f2.f0) ((rd_T47 l0_2 x10_3).f2.f1.f0) ((rd_T47 l0_2 x10_3).f2.f1.f1) ((rd_T47 l0_2 x10_3).f2.f1.f2) _ _ ((rd_T47 l0_2 x10_3).f2.f2) x5_11 0 t248 t249 _ ?side1 ?side2 A39.out).mono ?_); (case side1 => repeat (first | exact (Kd.C_below HR247_14.out HB.out) | (with_reducible refine Kd.C_alloc ?_ _) | (with_reducible refine Kd.C_drewN ?_ _) | (with_reducible refine Kd.C_drew ?_))); (case side2 => exact HC247_14.out); rintro e w60 ⟨rfl, hb⟩; refine ⟨_, rfl, ?_⟩; have n0_ := Aside0.mk (blk_below (g := gb229) (o := .cells #[.string a0_0, .int .i64 a0_1, .slice (some ad244) l0_2.length c0_2, .int .i64 a0_3, .int .i64 a0_4, .int .u8 a0_5, .int .i64 a0_6, .string a0_7, .slice A0_8 l0_8.length c0_8, .bool a0_9, .int .i64 a0_10] 38 (0, 0)) (by (with_reducible repeat (first | refine blk_drewN ?_ _ | refine blk_drew ?_ | refine blk_alloc ?_ _)); exact BK229.out) hb); have n1_ := Aside0.mk (below_step (by repeat (first | (with_reducible first | exact HB.out | apply below_alloc | apply pw_below_drewN | apply below_drew1 | refine below_set ?_ GE229.out) | exact HB.out)) hb); clear BK229; clear HB; have BK229 := n0_; have HB := n1_; clear n0_ n1_; (try clear hb); (try clear hb2); (try clear hk); (try clear hi)) | ((with_reducible refine gate_callee (f := 10) rfl ?_); refine goesL_ (some 92) rfl rfl Try.func10 (by kernel_rfl) rfl #[.int .i64 t246] rfl (by (try simp only [List.map_toArray, List.map_cons, List.map_nil]); first | done | rfl | (simp only [List.length_drop, List.length_take]; rfl)) ?_; (with_reducible refine (gristmilllaw12_code.calls t246 t250 _ A40.out).mono ?_); rintro e w' ⟨rfl, ⟨nd, rfl⟩⟩; refine ⟨_, rfl, ?_⟩) | ((with_reducible refine gate_callee (f := 10) rfl ?_); refine goesL_ (some 94) rfl rfl Try.func10 (by kernel_rfl) rfl #[.int .i64 t249] rfl (by (try simp only [List.map_toArray, List.map_cons, List.map_nil]); first | done | rfl | (simp only [List.length_drop, List.length_take]; rfl)) ?_; (with_reducible refine (gristmilllaw12_code.calls t249 t251 _ A41.out).mono ?_); rintro e w' ⟨rfl, ⟨nd, rfl⟩⟩; refine ⟨_, rfl, ?_⟩))
                          go_ret
                          exact ⟨by first | rfl | (simp [errW_none, errW_some] <;> rfl) | (simp [*, errW_none, errW_some] <;> rfl), by repeat (first | (with_reducible first | exact HB.out | apply below_alloc | apply pw_below_drewN | apply below_drew1 | refine below_set ?_ GE229.out) | exact HB.out)⟩
                      · rw [if_neg c37] at H
                        exact absurd H (by simp)
                    · rw [if_neg c36] at H
                      have c36b0 : decide (x10_3 < (l0_2.length : Int)) = false := decide_eq_false c36
                      clear c36
                      replace H := Option.bind_eq_some_iff.mp H
                      obtain ⟨t243, A610, H⟩ := H
                      replace H : (some t243) = some r := H
                      have A61 := Aside0.mk A610
                      clear A610
                      obtain rfl := Option.some.inj H
                      have hcz62_0 : wr.cell? ⟨gb229, 0, none⟩ = some (.string a0_0) := (blk_cell BK229.out 0).trans rfl
                      have hcz62_1 : wr.cell? ⟨gb229, 1, none⟩ = some (.int .i64 a0_1) := (blk_cell BK229.out 1).trans rfl
                      have hcz62_2 : wr.cell? ⟨gb229, 2, none⟩ = some (.slice A0_2 l0_2.length c0_2) := (blk_cell BK229.out 2).trans rfl
                      have hcz62_3 : wr.cell? ⟨gb229, 3, none⟩ = some (.int .i64 a0_3) := (blk_cell BK229.out 3).trans rfl
                      have hcz62_4 : wr.cell? ⟨gb229, 4, none⟩ = some (.int .i64 a0_4) := (blk_cell BK229.out 4).trans rfl
                      have hcz62_5 : wr.cell? ⟨gb229, 5, none⟩ = some (.int .u8 a0_5) := (blk_cell BK229.out 5).trans rfl
                      have hcz62_6 : wr.cell? ⟨gb229, 6, none⟩ = some (.int .i64 a0_6) := (blk_cell BK229.out 6).trans rfl
                      have hcz62_7 : wr.cell? ⟨gb229, 7, none⟩ = some (.string a0_7) := (blk_cell BK229.out 7).trans rfl
                      have hcz62_8 : wr.cell? ⟨gb229, 8, none⟩ = some (.slice A0_8 l0_8.length c0_8) := (blk_cell BK229.out 8).trans rfl
                      have hcz62_9 : wr.cell? ⟨gb229, 9, none⟩ = some (.bool a0_9) := (blk_cell BK229.out 9).trans rfl
                      have hcz62_10 : wr.cell? ⟨gb229, 10, none⟩ = some (.int .i64 a0_10) := (blk_cell BK229.out 10).trans rfl
                      have hfz62_0 := blk_frozen BK229.out 0
                      have hfz62_1 := blk_frozen BK229.out 1
                      have hfz62_2 := blk_frozen BK229.out 2
                      have hfz62_3 := blk_frozen BK229.out 3
                      have hfz62_4 := blk_frozen BK229.out 4
                      have hfz62_5 := blk_frozen BK229.out 5
                      have hfz62_6 := blk_frozen BK229.out 6
                      have hfz62_7 := blk_frozen BK229.out 7
                      have hfz62_8 := blk_frozen BK229.out 8
                      have hfz62_9 := blk_frozen BK229.out 9
                      have hfz62_10 := blk_frozen BK229.out 10
                      go_wp2_with (first | ((with_reducible refine gate_callee (f := 7) rfl ?_); refine goesL_ (some 105) rfl rfl Try.func7 (by kernel_rfl) rfl #[] rfl (by (try simp only [List.map_toArray, List.map_cons, List.map_nil]); first | done | rfl | (simp only [List.length_drop, List.length_take]; rfl)) ?_; (with_reducible refine (gristmilllaw12_live.calls k3  t243 _ A61.out).mono ?_); rintro e w63 ⟨rfl, hb⟩; refine ⟨_, rfl, ?_⟩; have n0_ := Aside0.mk (blk_below (g := gb229) (o := .cells #[.string a0_0, .int .i64 a0_1, .slice A0_2 l0_2.length c0_2, .int .i64 a0_3, .int .i64 a0_4, .int .u8 a0_5, .int .i64 a0_6, .string a0_7, .slice A0_8 l0_8.length c0_8, .bool a0_9, .int .i64 a0_10] 38 (0, 0)) (by (with_reducible repeat (first | refine blk_drewN ?_ _ | refine blk_drew ?_ | refine blk_alloc ?_ _)); exact BK229.out) hb); have n1_ := Aside0.mk (below_step (by repeat (first | (with_reducible first | exact HB.out | apply below_alloc | apply pw_below_drewN | apply below_drew1 | refine below_set ?_ GE229.out) | exact HB.out)) hb); clear BK229; clear HB; have BK229 := n0_; have HB := n1_; clear n0_ n1_; (try clear hb); (try clear hb2); (try clear hk); (try clear hi)))
                      go_ret
                      exact ⟨by first | rfl | (simp [errW_none, errW_some] <;> rfl) | (simp [*, errW_none, errW_some] <;> rfl), by repeat (first | (with_reducible first | exact HB.out | apply below_alloc | apply pw_below_drewN | apply below_drew1 | refine below_set ?_ GE229.out) | exact HB.out)⟩
    · rw [if_neg c11] at H
      have c11b0 : (t234 == 0) = false := beq_eq_false_iff_ne.mpr c11
      have c11b1 : (t234 != 0) = true := bne_iff_ne.mpr c11
      replace H := Option.bind_eq_some_iff.mp H
      obtain ⟨t235, A640, H⟩ := H
      replace H : (some t235) = some r := H
      have A64 := Aside0.mk A640
      clear A640
      obtain rfl := Option.some.inj H
      go_enter Try.func5, Try.ntmps5
      go_wp2_with (first | ((with_reducible refine gate_dst (N := 1) rfl ?_); refine box_event ?hg (N := 1) ?hd (cs := #[.string a0_0, .int .i64 a0_1, .slice A0_2 l0_2.length c0_2, .int .i64 a0_3, .int .i64 a0_4, .int .u8 a0_5, .int .i64 a0_6, .string a0_7, .slice A0_8 l0_8.length c0_8, .bool a0_9, .int .i64 a0_10]) (t := 38) ?hr ?_; (case hd => rfl); (case hg => rfl); (case hr => first | (go_simp; done) | (go_simp; rfl)); intro gb229 hg w65 hbox hb; have n0_ := Aside0.mk (below_step (by repeat (first | (with_reducible first | exact HB.out | apply below_alloc | apply pw_below_drewN | apply below_drew1) | exact HB.out)) hb); have n1_ := Aside0.mk (hbox); have n2_ := Aside0.mk ((by rw [hg]; exact (below_size (by repeat (first | (with_reducible first | exact HB.out | apply below_alloc | apply pw_below_drewN | apply below_drew1) | exact HB.out))) : w.heap.size ≤ gb229)); have n3_ := Aside0.mk ((by rw [hg]; exact (below_size (by repeat (first | (with_reducible first | exact HB.out | apply below_alloc | apply pw_below_drewN | apply below_drew1) | exact HB.out))) : w.heap.size ≤ gb229)); clear HB; have HB := n0_; have BK229 := n1_; have GW229 := n2_; have GE229 := n3_; clear n0_ n1_ n2_ n3_; clear hb hbox hg; have hcz66_0 : w65.cell? ⟨gb229, 0, none⟩ = some (.string a0_0) := (blk_cell BK229.out 0).trans rfl; have hcz66_1 : w65.cell? ⟨gb229, 1, none⟩ = some (.int .i64 a0_1) := (blk_cell BK229.out 1).trans rfl; have hcz66_2 : w65.cell? ⟨gb229, 2, none⟩ = some (.slice A0_2 l0_2.length c0_2) := (blk_cell BK229.out 2).trans rfl; have hcz66_3 : w65.cell? ⟨gb229, 3, none⟩ = some (.int .i64 a0_3) := (blk_cell BK229.out 3).trans rfl; have hcz66_4 : w65.cell? ⟨gb229, 4, none⟩ = some (.int .i64 a0_4) := (blk_cell BK229.out 4).trans rfl; have hcz66_5 : w65.cell? ⟨gb229, 5, none⟩ = some (.int .u8 a0_5) := (blk_cell BK229.out 5).trans rfl; have hcz66_6 : w65.cell? ⟨gb229, 6, none⟩ = some (.int .i64 a0_6) := (blk_cell BK229.out 6).trans rfl; have hcz66_7 : w65.cell? ⟨gb229, 7, none⟩ = some (.string a0_7) := (blk_cell BK229.out 7).trans rfl; have hcz66_8 : w65.cell? ⟨gb229, 8, none⟩ = some (.slice A0_8 l0_8.length c0_8) := (blk_cell BK229.out 8).trans rfl; have hcz66_9 : w65.cell? ⟨gb229, 9, none⟩ = some (.bool a0_9) := (blk_cell BK229.out 9).trans rfl; have hcz66_10 : w65.cell? ⟨gb229, 10, none⟩ = some (.int .i64 a0_10) := (blk_cell BK229.out 10).trans rfl; have hfz66_0 := blk_frozen BK229.out 0; have hfz66_1 := blk_frozen BK229.out 1; have hfz66_2 := blk_frozen BK229.out 2; have hfz66_3 := blk_frozen BK229.out 3; have hfz66_4 := blk_frozen BK229.out 4; have hfz66_5 := blk_frozen BK229.out 5; have hfz66_6 := blk_frozen BK229.out 6; have hfz66_7 := blk_frozen BK229.out 7; have hfz66_8 := blk_frozen BK229.out 8; have hfz66_9 := blk_frozen BK229.out 9; have hfz66_10 := blk_frozen BK229.out 10) | ((with_reducible refine gate_callee (f := 11) rfl ?_); refine goesL_ (some 16) rfl rfl Try.func11 (by kernel_rfl) rfl #[.agg #[.string a0_0, .int .i64 a0_1, .slice A0_2 l0_2.length c0_2, .int .i64 a0_3, .int .i64 a0_4, .int .u8 a0_5, .int .i64 a0_6, .string a0_7, .slice A0_8 l0_8.length c0_8, .bool a0_9, .int .i64 a0_10]] rfl (by (try simp only [List.map_toArray, List.map_cons, List.map_nil]); first | done | rfl | (simp only [List.length_drop, List.length_take]; rfl)) ?_; (with_reducible refine (gristmillref11_Big.calls k a0_0 a0_1 _ _ l0_2 a0_3 a0_4 a0_5 a0_6 a0_7 _ _ l0_8 a0_9 a0_10 false _ ?side1 ?side2 ?side3 ?side4 A2.out).mono ?_); (case side1 => repeat (first | exact (Kd.C_below HR0_2.out HB.out) | (with_reducible refine Kd.C_alloc ?_ _) | (with_reducible refine Kd.C_drewN ?_ _) | (with_reducible refine Kd.C_drew ?_))); (case side2 => exact HC0_2.out); (case side3 => repeat (first | exact (Kd.C_below HR0_8.out HB.out) | (with_reducible refine Kd.C_alloc ?_ _) | (with_reducible refine Kd.C_drewN ?_ _) | (with_reducible refine Kd.C_drew ?_))); (case side4 => exact HC0_8.out); rintro e w67 ⟨rfl, hb⟩; refine ⟨_, rfl, ?_⟩; have n0_ := Aside0.mk (blk_below (g := gb229) (o := .cells #[.string a0_0, .int .i64 a0_1, .slice A0_2 l0_2.length c0_2, .int .i64 a0_3, .int .i64 a0_4, .int .u8 a0_5, .int .i64 a0_6, .string a0_7, .slice A0_8 l0_8.length c0_8, .bool a0_9, .int .i64 a0_10] 38 (0, 0)) (by (with_reducible repeat (first | refine blk_drewN ?_ _ | refine blk_drew ?_ | refine blk_alloc ?_ _)); exact BK229.out) hb); have n1_ := Aside0.mk (below_step (by repeat (first | (with_reducible first | exact HB.out | apply below_alloc | apply pw_below_drewN | apply below_drew1 | refine below_set ?_ GE229.out) | exact HB.out)) hb); clear BK229; clear HB; have BK229 := n0_; have HB := n1_; clear n0_ n1_; (try clear hb); (try clear hb2); (try clear hk); (try clear hi); have hcz68_0 : w67.cell? ⟨gb229, 0, none⟩ = some (.string a0_0) := (blk_cell BK229.out 0).trans rfl; have hcz68_1 : w67.cell? ⟨gb229, 1, none⟩ = some (.int .i64 a0_1) := (blk_cell BK229.out 1).trans rfl; have hcz68_2 : w67.cell? ⟨gb229, 2, none⟩ = some (.slice A0_2 l0_2.length c0_2) := (blk_cell BK229.out 2).trans rfl; have hcz68_3 : w67.cell? ⟨gb229, 3, none⟩ = some (.int .i64 a0_3) := (blk_cell BK229.out 3).trans rfl; have hcz68_4 : w67.cell? ⟨gb229, 4, none⟩ = some (.int .i64 a0_4) := (blk_cell BK229.out 4).trans rfl; have hcz68_5 : w67.cell? ⟨gb229, 5, none⟩ = some (.int .u8 a0_5) := (blk_cell BK229.out 5).trans rfl; have hcz68_6 : w67.cell? ⟨gb229, 6, none⟩ = some (.int .i64 a0_6) := (blk_cell BK229.out 6).trans rfl; have hcz68_7 : w67.cell? ⟨gb229, 7, none⟩ = some (.string a0_7) := (blk_cell BK229.out 7).trans rfl; have hcz68_8 : w67.cell? ⟨gb229, 8, none⟩ = some (.slice A0_8 l0_8.length c0_8) := (blk_cell BK229.out 8).trans rfl; have hcz68_9 : w67.cell? ⟨gb229, 9, none⟩ = some (.bool a0_9) := (blk_cell BK229.out 9).trans rfl; have hcz68_10 : w67.cell? ⟨gb229, 10, none⟩ = some (.int .i64 a0_10) := (blk_cell BK229.out 10).trans rfl; have hfz68_0 := blk_frozen BK229.out 0; have hfz68_1 := blk_frozen BK229.out 1; have hfz68_2 := blk_frozen BK229.out 2; have hfz68_3 := blk_frozen BK229.out 3; have hfz68_4 := blk_frozen BK229.out 4; have hfz68_5 := blk_frozen BK229.out 5; have hfz68_6 := blk_frozen BK229.out 6; have hfz68_7 := blk_frozen BK229.out 7; have hfz68_8 := blk_frozen BK229.out 8; have hfz68_9 := blk_frozen BK229.out 9; have hfz68_10 := blk_frozen BK229.out 10) | ((with_reducible refine gate_callee (f := 12) rfl ?_); refine goesL_ (some 20) rfl rfl Try.func12 (by kernel_rfl) rfl #[.agg #[.string a0_0, .int .i64 a0_1, .slice A0_2 l0_2.length c0_2, .int .i64 a0_3, .int .i64 a0_4, .int .u8 a0_5, .int .i64 a0_6, .string a0_7, .slice A0_8 l0_8.length c0_8, .bool a0_9, .int .i64 a0_10]] rfl (by (try simp only [List.map_toArray, List.map_cons, List.map_nil]); first | done | rfl | (simp only [List.length_drop, List.length_take]; rfl)) ?_; (with_reducible refine (check_Job.calls k a0_0 a0_1 _ _ l0_2 a0_3 a0_4 a0_5 a0_6 a0_7 _ _ l0_8 a0_9 a0_10 t232 t233 _ ?side1 ?side2 ?side3 ?side4 A9.out).mono ?_); (case side1 => repeat (first | exact (Kd.C_below HR0_2.out HB.out) | (with_reducible refine Kd.C_alloc ?_ _) | (with_reducible refine Kd.C_drewN ?_ _) | (with_reducible refine Kd.C_drew ?_))); (case side2 => exact HC0_2.out); (case side3 => repeat (first | exact (Kd.C_below HR0_8.out HB.out) | (with_reducible refine Kd.C_alloc ?_ _) | (with_reducible refine Kd.C_drewN ?_ _) | (with_reducible refine Kd.C_drew ?_))); (case side4 => exact HC0_8.out); rintro e w69 ⟨rfl, hb⟩; refine ⟨_, rfl, ?_⟩; have n0_ := Aside0.mk (blk_below (g := gb229) (o := .cells #[.string a0_0, .int .i64 a0_1, .slice A0_2 l0_2.length c0_2, .int .i64 a0_3, .int .i64 a0_4, .int .u8 a0_5, .int .i64 a0_6, .string a0_7, .slice A0_8 l0_8.length c0_8, .bool a0_9, .int .i64 a0_10] 38 (0, 0)) (by (with_reducible repeat (first | refine blk_drewN ?_ _ | refine blk_drew ?_ | refine blk_alloc ?_ _)); exact BK229.out) hb); have n1_ := Aside0.mk (below_step (by repeat (first | (with_reducible first | exact HB.out | apply below_alloc | apply pw_below_drewN | apply below_drew1 | refine below_set ?_ GE229.out) | exact HB.out)) hb); clear BK229; clear HB; have BK229 := n0_; have HB := n1_; clear n0_ n1_; (try clear hb); (try clear hb2); (try clear hk); (try clear hi)) | ((with_reducible refine gate_callee (f := 10) rfl ?_); refine goesL_ (some 24) rfl rfl Try.func10 (by kernel_rfl) rfl #[.int .i64 t233] rfl (by (try simp only [List.map_toArray, List.map_cons, List.map_nil]); first | done | rfl | (simp only [List.length_drop, List.length_take]; rfl)) ?_; (with_reducible refine (gristmilllaw12_code.calls t233 t234 _ A10.out).mono ?_); rintro e w' ⟨rfl, ⟨nd, rfl⟩⟩; refine ⟨_, rfl, ?_⟩) | ((with_reducible refine gate_callee (f := 7) rfl ?_); refine goesL_ (some 26) rfl rfl Try.func7 (by kernel_rfl) rfl #[] rfl (by (try simp only [List.map_toArray, List.map_cons, List.map_nil]); first | done | rfl | (simp only [List.length_drop, List.length_take]; rfl)) ?_; (with_reducible refine (gristmilllaw12_live.calls k  t235 _ A64.out).mono ?_); rintro e w70 ⟨rfl, hb⟩; refine ⟨_, rfl, ?_⟩; have n0_ := Aside0.mk (blk_below (g := gb229) (o := .cells #[.string a0_0, .int .i64 a0_1, .slice A0_2 l0_2.length c0_2, .int .i64 a0_3, .int .i64 a0_4, .int .u8 a0_5, .int .i64 a0_6, .string a0_7, .slice A0_8 l0_8.length c0_8, .bool a0_9, .int .i64 a0_10] 38 (0, 0)) (by (with_reducible repeat (first | refine blk_drewN ?_ _ | refine blk_drew ?_ | refine blk_alloc ?_ _)); exact BK229.out) hb); have n1_ := Aside0.mk (below_step (by repeat (first | (with_reducible first | exact HB.out | apply below_alloc | apply pw_below_drewN | apply below_drew1 | refine below_set ?_ GE229.out) | exact HB.out)) hb); clear BK229; clear HB; have BK229 := n0_; have HB := n1_; clear n0_ n1_; (try clear hb); (try clear hb2); (try clear hk); (try clear hi)))
      go_ret
      exact ⟨by first | rfl | (simp [errW_none, errW_some] <;> rfl) | (simp [*, errW_none, errW_some] <;> rfl), by repeat (first | (with_reducible first | exact HB.out | apply below_alloc | apply pw_below_drewN | apply below_drew1 | refine below_set ?_ GE229.out) | exact HB.out)⟩

end Go.Proofs.Ytejeaiplbhgfdaa.Ck
