-- WRITTEN BY given-print.py, trimx.py, shrink.py (wip/tools), programs of this session's, out of the translation
import Derived.Test.YtejeaiplbhgfdaaCkx0
import Derived.Test.YtejeaiplbhgfdaaCkx10
import Derived.Test.YtejeaiplbhgfdaaCkx11
namespace Go.Proofs.Ytejeaiplbhgfdaa.Ck
open Go.RowKit Go.Proofs.YtejeaiplbhgfdaaW.PrintWords Go.Proofs.YtejeaiplbhgfdaaW.PrintLast Go.Proofs.YtejeaiplbhgfdaaW.PrintMore
attribute [local go_sem] max2_int min2_int max_two min_two max_three min_three max_four min_four   -- for this text's walks alone
set_option linter.unusedVariables false
set_option linter.unusedSimpArgs false
mutual
def gristmillref12_Acc.j0 : Nat → Bool → ByteArray → Int → List (S47) → Int → Int → Int → Int → ByteArray → List (S26) → Bool → Int → Option (Int × Int)
 | 0, _, _, _, _, _, _, _, _, _, _, _, _ => none
 | k + 1, x11, x272000, x272001, x272002, x272003, x272004, x272005, x272006, x272007, x272008, x272009, x272010 => if x11 = true then (some (0, 0)) else (if x272003 = 4 then (some (1, 0)) else (if x272003 < 0 then (gristmillref12_Acc.j1 k true x272000 x272001 x272002 x272003 x272004 x272005 x272006 x272007 x272008 x272009 x272010) else (if x272003 > 6 then (gristmillref12_Acc.j1 k true x272000 x272001 x272002 x272003 x272004 x272005 x272006 x272007 x272008 x272009 x272010) else (gristmillref12_Acc.j1 k ((x272002.length : Int) == 0) x272000 x272001 x272002 x272003 x272004 x272005 x272006 x272007 x272008 x272009 x272010))))
def gristmillref12_Acc.j1 : Nat → Bool → ByteArray → Int → List (S47) → Int → Int → Int → Int → ByteArray → List (S26) → Bool → Int → Option (Int × Int)
 | 0, _, _, _, _, _, _, _, _, _, _, _, _ => none
 | k + 1, x28, x272000, x272001, x272002, x272003, x272004, x272005, x272006, x272007, x272008, x272009, x272010 => if x28 = true then (some (0, 3)) else (if 0 < (x272002.length : Int) then ((gristmillref12_stage.f x272000 x272001 x272002 x272003 x272004 x272005 x272006 x272007 x272008 x272009 x272010).bind fun t273 => ((gristmillref12_Kind.f k ((rd_T47 x272002 0).f1.f0) ((rd_T47 x272002 0).f1.f1.f0) ((rd_T47 x272002 0).f1.f1.f1) ((rd_T47 x272002 0).f1.f1.f2) ((rd_T47 x272002 0).f1.f2) t273 0).bind fun bt274 => (some (bt274.1, bt274.2)))) else (none))
end
def gristmillref12_Acc.f (k : Nat) (a0_0 : ByteArray) (a0_1 : Int) (l0_2 : List (S47)) (a0_3 : Int) (a0_4 : Int) (a0_5 : Int) (a0_6 : Int) (a0_7 : ByteArray) (l0_8 : List (S26)) (a0_9 : Bool) (a0_10 : Int) : Option (Int × Int) := if a0_3 ≥ 0 then (gristmillref12_Acc.j0 k (decide (a0_3 ≤ 3)) a0_0 a0_1 l0_2 a0_3 a0_4 a0_5 a0_6 a0_7 l0_8 a0_9 a0_10) else (gristmillref12_Acc.j0 k false a0_0 a0_1 l0_2 a0_3 a0_4 a0_5 a0_6 a0_7 l0_8 a0_9 a0_10)
def gristmillref12_Acc.T7 : Bool × List (List Nat × List Nat) := (true, [([], []), ([0], [0]), ([1], [1]), ([2], [2]), ([3], [3]), ([], []), ([5], [5]), ([4, 6, 6], [4, 6]), ([7], [7]), ([7], [7]), ([8, 7, 0, 1, 2, 3, 4, 5, 6, 7, 8, 9], [8]), ([9, 10, 0, 1, 2, 3, 4, 5, 6, 7, 8, 9, 10], [9])])
def gristmillref12_Acc.B7 : List Nat := [0, 1, 3, 7, 15, 0, 32, 127, 255, 255, 1023, 2047]
theorem gristmillref12_Acc.tab7 : rtab .any (opsOf Try.f15 7) = gristmillref12_Acc.T7 := by kernel_rfl
theorem gristmillref12_Acc.bits7 : waitsOk gristmillref12_Acc.T7.2 gristmillref12_Acc.B7 = true := by kernel_rfl
set_option maxHeartbeats 8000000 in
set_option maxRecDepth 100000 in
theorem gristmillref12_Acc.calls (k : Nat) (a0_0 : ByteArray) (a0_1 : Int) (A0_2 : Option Addr) (c0_2 : Nat) (l0_2 : List (S47)) (a0_3 : Int) (a0_4 : Int) (a0_5 : Int) (a0_6 : Int) (a0_7 : ByteArray) (A0_8 : Option Addr) (c0_8 : Nat) (l0_8 : List (S26)) (a0_9 : Bool) (a0_10 : Int) (r1 : Int) (r2 : Int) (w : World) (hr0_2 : Kd.C k47 w A0_2 l0_2.length l0_2) (hc0_2 : l0_2.length ≤ c0_2) (hr0_8 : Kd.C k26 w A0_8 l0_8.length l0_8) (hc0_8 : l0_8.length ≤ c0_8) (h : gristmillref12_Acc.f k a0_0 a0_1 l0_2 a0_3 a0_4 a0_5 a0_6 a0_7 l0_8 a0_9 a0_10 = some (r1, r2)) :
 Calls Try.prog 15 #[.agg #[.string a0_0, .int .i64 a0_1, .slice A0_2 l0_2.length c0_2, .int .i64 a0_3, .int .i64 a0_4, .int .u8 a0_5, .int .i64 a0_6, .string a0_7, .slice A0_8 l0_8.length c0_8, .bool a0_9, .int .i64 a0_10]] w fun e w' => e = .returned (.tuple #[.int .i64 r1, .int .i64 r2]) ∧ Below w.heap.size w w' := by
 have hu38 := Try.underlying38
 have hu26 := Try.underlying26
 have HR0_2 := Aside0.mk hr0_2
 have HC0_2 := Aside0.mk hc0_2
 clear hr0_2 hc0_2
 have HR0_8 := Aside0.mk hr0_8
 have HC0_8 := Aside0.mk hc0_8
 clear hr0_8 hc0_8
 have HB := Aside0.mk (Below.refl w.heap.size w)
 have H : (if a0_3 ≥ 0 then (gristmillref12_Acc.j0 k (decide (a0_3 ≤ 3)) a0_0 a0_1 l0_2 a0_3 a0_4 a0_5 a0_6 a0_7 l0_8 a0_9 a0_10) else (gristmillref12_Acc.j0 k false a0_0 a0_1 l0_2 a0_3 a0_4 a0_5 a0_6 a0_7 l0_8 a0_9 a0_10)) = some (r1, r2) := h
 clear h
 have HC2 := Aside0.mk H
 clear H
 go_enter Try.func15, Try.ntmps15
 go_upto_region 1 with (first | ((with_reducible refine gate_dst (N := 1) rfl ?_); (try (refine gate_guard (by rfl) ?_; dsimp only)); refine box_event ?hg (N := 1) ?hd (cs := #[.string a0_0, .int .i64 a0_1, .slice A0_2 l0_2.length c0_2, .int .i64 a0_3, .int .i64 a0_4, .int .u8 a0_5, .int .i64 a0_6, .string a0_7, .slice A0_8 l0_8.length c0_8, .bool a0_9, .int .i64 a0_10]) (t := 38) ?hr ?_; (case hd => rfl); (case hg => rfl); (case hr => first | (go_simp; done) | (go_simp; rfl)); intro gb271 hg w3 hbox hb; have n0_ := Aside0.mk (below_step (by repeat (first | (with_reducible first | exact HB.out | apply below_alloc | apply pw_below_drewN | apply below_drew1) | exact HB.out)) hb); have n1_ := Aside0.mk (hbox); have n2_ := Aside0.mk ((by rw [hg]; exact (below_size (by repeat (first | (with_reducible first | exact HB.out | apply below_alloc | apply pw_below_drewN | apply below_drew1) | exact HB.out))) : w.heap.size ≤ gb271)); have n3_ := Aside0.mk ((by rw [hg]; exact (below_size (by repeat (first | (with_reducible first | exact HB.out | apply below_alloc | apply pw_below_drewN | apply below_drew1) | exact HB.out))) : w.heap.size ≤ gb271)); clear HB; have HB := n0_; have BK271 := n1_; have GW271 := n2_; have GE271 := n3_; clear n0_ n1_ n2_ n3_; clear hb hbox hg))
 (try simp only [Act.put, List.setIfInBounds_toArray, List.set_cons_zero, List.set_cons_succ])
 go_cut [11] (fun v11 wc => ∃ (kq : Nat) (x11_1 : Bool), v11 = .bool x11_1 ∧ Aside0 (gristmillref12_Acc.j0 kq x11_1 a0_0 a0_1 l0_2 a0_3 a0_4 a0_5 a0_6 a0_7 l0_8 a0_9 a0_10 = some (r1, r2)) ∧ Aside0 (kq ≤ k) ∧ Aside0 (wc.heap[gb271]? = some (.cells #[.string a0_0, .int .i64 a0_1, (.slice A0_2 l0_2.length c0_2), .int .i64 a0_3, .int .i64 a0_4, .int .u8 a0_5, .int .i64 a0_6, .string a0_7, (.slice A0_8 l0_8.length c0_8), .bool a0_9, .int .i64 a0_10] 38 (0, 0))) ∧ Aside0 (Below w.heap.size w wc))
 case first =>
  have H := HC2.out
  clear HC2
  by_cases c4 : a0_3 ≥ 0
  ·rw [if_pos c4] at H
   have c4b0 : decide (0 ≤ a0_3) = true := decide_eq_true c4
   clear c4
   (first | rw [c4b0] | (simp only [i64_w, i32_w]; rw [c4b0]) | skip)
   have H' := Aside0.mk H
   clear H
   have hcz5_0 : w3.cell? ⟨gb271, 0, none⟩ = some (.string a0_0) := (blk_cell BK271.out 0).trans rfl
   have hcz5_1 : w3.cell? ⟨gb271, 1, none⟩ = some (.int .i64 a0_1) := (blk_cell BK271.out 1).trans rfl
   have hcz5_2 : w3.cell? ⟨gb271, 2, none⟩ = some (.slice A0_2 l0_2.length c0_2) := (blk_cell BK271.out 2).trans rfl
   have hcz5_3 : w3.cell? ⟨gb271, 3, none⟩ = some (.int .i64 a0_3) := (blk_cell BK271.out 3).trans rfl
   have hcz5_4 : w3.cell? ⟨gb271, 4, none⟩ = some (.int .i64 a0_4) := (blk_cell BK271.out 4).trans rfl
   have hcz5_5 : w3.cell? ⟨gb271, 5, none⟩ = some (.int .u8 a0_5) := (blk_cell BK271.out 5).trans rfl
   have hcz5_6 : w3.cell? ⟨gb271, 6, none⟩ = some (.int .i64 a0_6) := (blk_cell BK271.out 6).trans rfl
   have hcz5_7 : w3.cell? ⟨gb271, 7, none⟩ = some (.string a0_7) := (blk_cell BK271.out 7).trans rfl
   have hcz5_8 : w3.cell? ⟨gb271, 8, none⟩ = some (.slice A0_8 l0_8.length c0_8) := (blk_cell BK271.out 8).trans rfl
   have hcz5_9 : w3.cell? ⟨gb271, 9, none⟩ = some (.bool a0_9) := (blk_cell BK271.out 9).trans rfl
   have hcz5_10 : w3.cell? ⟨gb271, 10, none⟩ = some (.int .i64 a0_10) := (blk_cell BK271.out 10).trans rfl
   have hfz5_0 := blk_frozen BK271.out 0
   have hfz5_1 := blk_frozen BK271.out 1
   have hfz5_2 := blk_frozen BK271.out 2
   have hfz5_3 := blk_frozen BK271.out 3
   have hfz5_4 := blk_frozen BK271.out 4
   have hfz5_5 := blk_frozen BK271.out 5
   have hfz5_6 := blk_frozen BK271.out 6
   have hfz5_7 := blk_frozen BK271.out 7
   have hfz5_8 := blk_frozen BK271.out 8
   have hfz5_9 := blk_frozen BK271.out 9
   have hfz5_10 := blk_frozen BK271.out 10
   go_wp2
   go_meet
   case rel => exact ⟨_, (decide (a0_3 ≤ 3)), (by first | rfl | (simp; done) | (simp [*]; done)), H', ⟨by first | omega | exact Nat.le_refl _⟩, ⟨by (with_reducible repeat (first | refine blk_drewN ?_ _ | refine blk_drew ?_ | refine blk_alloc ?_ _)); exact BK271.out⟩, ⟨by repeat (first | (with_reducible first | exact HB.out | apply below_alloc | apply pw_below_drewN | apply below_drew1 | refine below_set ?_ GE271.out) | exact HB.out)⟩⟩
  ·rw [if_neg c4] at H
   have c4b0 : decide (0 ≤ a0_3) = false := decide_eq_false c4
   clear c4
   (first | rw [c4b0] | (simp only [i64_w, i32_w]; rw [c4b0]) | skip)
   have H' := Aside0.mk H
   clear H
   have hcz6_0 : w3.cell? ⟨gb271, 0, none⟩ = some (.string a0_0) := (blk_cell BK271.out 0).trans rfl
   have hcz6_1 : w3.cell? ⟨gb271, 1, none⟩ = some (.int .i64 a0_1) := (blk_cell BK271.out 1).trans rfl
   have hcz6_2 : w3.cell? ⟨gb271, 2, none⟩ = some (.slice A0_2 l0_2.length c0_2) := (blk_cell BK271.out 2).trans rfl
   have hcz6_3 : w3.cell? ⟨gb271, 3, none⟩ = some (.int .i64 a0_3) := (blk_cell BK271.out 3).trans rfl
   have hcz6_4 : w3.cell? ⟨gb271, 4, none⟩ = some (.int .i64 a0_4) := (blk_cell BK271.out 4).trans rfl
   have hcz6_5 : w3.cell? ⟨gb271, 5, none⟩ = some (.int .u8 a0_5) := (blk_cell BK271.out 5).trans rfl
   have hcz6_6 : w3.cell? ⟨gb271, 6, none⟩ = some (.int .i64 a0_6) := (blk_cell BK271.out 6).trans rfl
   have hcz6_7 : w3.cell? ⟨gb271, 7, none⟩ = some (.string a0_7) := (blk_cell BK271.out 7).trans rfl
   have hcz6_8 : w3.cell? ⟨gb271, 8, none⟩ = some (.slice A0_8 l0_8.length c0_8) := (blk_cell BK271.out 8).trans rfl
   have hcz6_9 : w3.cell? ⟨gb271, 9, none⟩ = some (.bool a0_9) := (blk_cell BK271.out 9).trans rfl
   have hcz6_10 : w3.cell? ⟨gb271, 10, none⟩ = some (.int .i64 a0_10) := (blk_cell BK271.out 10).trans rfl
   have hfz6_0 := blk_frozen BK271.out 0
   have hfz6_1 := blk_frozen BK271.out 1
   have hfz6_2 := blk_frozen BK271.out 2
   have hfz6_3 := blk_frozen BK271.out 3
   have hfz6_4 := blk_frozen BK271.out 4
   have hfz6_5 := blk_frozen BK271.out 5
   have hfz6_6 := blk_frozen BK271.out 6
   have hfz6_7 := blk_frozen BK271.out 7
   have hfz6_8 := blk_frozen BK271.out 8
   have hfz6_9 := blk_frozen BK271.out 9
   have hfz6_10 := blk_frozen BK271.out 10
   go_wp2
   go_meet
   case rel => exact ⟨_, (false), (by first | rfl | (simp; done) | (simp [*]; done)), H', ⟨by first | omega | exact Nat.le_refl _⟩, ⟨by (with_reducible repeat (first | refine blk_drewN ?_ _ | refine blk_drew ?_ | refine blk_alloc ?_ _)); exact BK271.out⟩, ⟨by repeat (first | (with_reducible first | exact HB.out | apply below_alloc | apply pw_below_drewN | apply below_drew1 | refine below_set ?_ GE271.out) | exact HB.out)⟩⟩
 case rest =>
  clear HC2
  (try clear c1); (try clear p2); (try clear c4); (try clear c4b0); (try clear hcz5_0); (try clear hcz5_1); (try clear hcz5_10); (try clear hcz5_2); (try clear hcz5_3); (try clear hcz5_4); (try clear hcz5_5); (try clear hcz5_6); (try clear hcz5_7); (try clear hcz5_8); (try clear hcz5_9); (try clear hcz6_0); (try clear hcz6_1); (try clear hcz6_10); (try clear hcz6_2); (try clear hcz6_3); (try clear hcz6_4); (try clear hcz6_5); (try clear hcz6_6); (try clear hcz6_7); (try clear hcz6_8); (try clear hcz6_9); (try clear hfz5_0); (try clear hfz5_1); (try clear hfz5_10); (try clear hfz5_2); (try clear hfz5_3); (try clear hfz5_4); (try clear hfz5_5); (try clear hfz5_6); (try clear hfz5_7); (try clear hfz5_8); (try clear hfz5_9); (try clear hfz6_0); (try clear hfz6_1); (try clear hfz6_10); (try clear hfz6_2); (try clear hfz6_3); (try clear hfz6_4); (try clear hfz6_5); (try clear hfz6_6); (try clear hfz6_7); (try clear hfz6_8); (try clear hfz6_9)
  obtain ⟨kq, x11_1, rfl, HA, HJ1, BK271, HB⟩ := hcut
  cases kq with
  | zero => exact absurd HA.out (by simp [gristmillref12_Acc.j0])
  | succ kj1 =>
   have H := HA.out
   clear HA
   simp only [gristmillref12_Acc.j0] at H
   by_cases c7 : x11_1 = true
   ·subst c7
    have H1 : (some (0, 0)) = some (r1, r2) := by rw [if_pos rfl] at H; exact H
    clear H
    have H := H1
    clear H1
    simp only [Option.some.injEq, Prod.mk.injEq] at H
    obtain ⟨rfl, rfl⟩ := H
    go_wp2
    go_ret2
    exact ⟨by first | rfl | (simp [errW_none, errW_some] <;> rfl) | (simp [*, errW_none, errW_some] <;> rfl), by repeat (first | (with_reducible first | exact HB.out | apply below_alloc | apply pw_below_drewN | apply below_drew1 | refine below_set ?_ GE271.out) | exact HB.out)⟩
   ·replace c7 := Bool.eq_false_iff.mpr c7
    subst c7
    have H1 : (if a0_3 = 4 then (some (1, 0)) else (if a0_3 < 0 then (gristmillref12_Acc.j1 kj1 true a0_0 a0_1 l0_2 a0_3 a0_4 a0_5 a0_6 a0_7 l0_8 a0_9 a0_10) else (if a0_3 > 6 then (gristmillref12_Acc.j1 kj1 true a0_0 a0_1 l0_2 a0_3 a0_4 a0_5 a0_6 a0_7 l0_8 a0_9 a0_10) else (gristmillref12_Acc.j1 kj1 ((l0_2.length : Int) == 0) a0_0 a0_1 l0_2 a0_3 a0_4 a0_5 a0_6 a0_7 l0_8 a0_9 a0_10)))) = some (r1, r2) := by rw [if_neg (show ¬ (false = true) by decide)] at H; exact H
    clear H
    have H := H1
    clear H1
    by_cases c8 : a0_3 = 4
    ·rw [if_pos c8] at H
     have c8b0 : (a0_3 == 4) = true := beq_iff_eq.mpr c8
     have c8b1 : (a0_3 != 4) = false := bne_eq_false_iff_eq.mpr c8
     clear c8
     simp only [Option.some.injEq, Prod.mk.injEq] at H
     obtain ⟨rfl, rfl⟩ := H
     have hcz9_0 : wc.cell? ⟨gb271, 0, none⟩ = some (.string a0_0) := (blk_cell BK271.out 0).trans rfl
     have hcz9_1 : wc.cell? ⟨gb271, 1, none⟩ = some (.int .i64 a0_1) := (blk_cell BK271.out 1).trans rfl
     have hcz9_2 : wc.cell? ⟨gb271, 2, none⟩ = some (.slice A0_2 l0_2.length c0_2) := (blk_cell BK271.out 2).trans rfl
     have hcz9_3 : wc.cell? ⟨gb271, 3, none⟩ = some (.int .i64 a0_3) := (blk_cell BK271.out 3).trans rfl
     have hcz9_4 : wc.cell? ⟨gb271, 4, none⟩ = some (.int .i64 a0_4) := (blk_cell BK271.out 4).trans rfl
     have hcz9_5 : wc.cell? ⟨gb271, 5, none⟩ = some (.int .u8 a0_5) := (blk_cell BK271.out 5).trans rfl
     have hcz9_6 : wc.cell? ⟨gb271, 6, none⟩ = some (.int .i64 a0_6) := (blk_cell BK271.out 6).trans rfl
     have hcz9_7 : wc.cell? ⟨gb271, 7, none⟩ = some (.string a0_7) := (blk_cell BK271.out 7).trans rfl
     have hcz9_8 : wc.cell? ⟨gb271, 8, none⟩ = some (.slice A0_8 l0_8.length c0_8) := (blk_cell BK271.out 8).trans rfl
     have hcz9_9 : wc.cell? ⟨gb271, 9, none⟩ = some (.bool a0_9) := (blk_cell BK271.out 9).trans rfl
     have hcz9_10 : wc.cell? ⟨gb271, 10, none⟩ = some (.int .i64 a0_10) := (blk_cell BK271.out 10).trans rfl
     have hfz9_0 := blk_frozen BK271.out 0
     have hfz9_1 := blk_frozen BK271.out 1
     have hfz9_2 := blk_frozen BK271.out 2
     have hfz9_3 := blk_frozen BK271.out 3
     have hfz9_4 := blk_frozen BK271.out 4
     have hfz9_5 := blk_frozen BK271.out 5
     have hfz9_6 := blk_frozen BK271.out 6
     have hfz9_7 := blk_frozen BK271.out 7
     have hfz9_8 := blk_frozen BK271.out 8
     have hfz9_9 := blk_frozen BK271.out 9
     have hfz9_10 := blk_frozen BK271.out 10
     go_wp2
     go_ret2
     exact ⟨by first | rfl | (simp [errW_none, errW_some] <;> rfl) | (simp [*, errW_none, errW_some] <;> rfl), by repeat (first | (with_reducible first | exact HB.out | apply below_alloc | apply pw_below_drewN | apply below_drew1 | refine below_set ?_ GE271.out) | exact HB.out)⟩
    ·rw [if_neg c8] at H
     have c8b0 : (a0_3 == 4) = false := beq_eq_false_iff_ne.mpr c8
     have c8b1 : (a0_3 != 4) = true := bne_iff_ne.mpr c8
     have HC10 := Aside0.mk H
     clear H
     have hcz11_0 : wc.cell? ⟨gb271, 0, none⟩ = some (.string a0_0) := (blk_cell BK271.out 0).trans rfl
     have hcz11_1 : wc.cell? ⟨gb271, 1, none⟩ = some (.int .i64 a0_1) := (blk_cell BK271.out 1).trans rfl
     have hcz11_2 : wc.cell? ⟨gb271, 2, none⟩ = some (.slice A0_2 l0_2.length c0_2) := (blk_cell BK271.out 2).trans rfl
     have hcz11_3 : wc.cell? ⟨gb271, 3, none⟩ = some (.int .i64 a0_3) := (blk_cell BK271.out 3).trans rfl
     have hcz11_4 : wc.cell? ⟨gb271, 4, none⟩ = some (.int .i64 a0_4) := (blk_cell BK271.out 4).trans rfl
     have hcz11_5 : wc.cell? ⟨gb271, 5, none⟩ = some (.int .u8 a0_5) := (blk_cell BK271.out 5).trans rfl
     have hcz11_6 : wc.cell? ⟨gb271, 6, none⟩ = some (.int .i64 a0_6) := (blk_cell BK271.out 6).trans rfl
     have hcz11_7 : wc.cell? ⟨gb271, 7, none⟩ = some (.string a0_7) := (blk_cell BK271.out 7).trans rfl
     have hcz11_8 : wc.cell? ⟨gb271, 8, none⟩ = some (.slice A0_8 l0_8.length c0_8) := (blk_cell BK271.out 8).trans rfl
     have hcz11_9 : wc.cell? ⟨gb271, 9, none⟩ = some (.bool a0_9) := (blk_cell BK271.out 9).trans rfl
     have hcz11_10 : wc.cell? ⟨gb271, 10, none⟩ = some (.int .i64 a0_10) := (blk_cell BK271.out 10).trans rfl
     have hfz11_0 := blk_frozen BK271.out 0
     have hfz11_1 := blk_frozen BK271.out 1
     have hfz11_2 := blk_frozen BK271.out 2
     have hfz11_3 := blk_frozen BK271.out 3
     have hfz11_4 := blk_frozen BK271.out 4
     have hfz11_5 := blk_frozen BK271.out 5
     have hfz11_6 := blk_frozen BK271.out 6
     have hfz11_7 := blk_frozen BK271.out 7
     have hfz11_8 := blk_frozen BK271.out 8
     have hfz11_9 := blk_frozen BK271.out 9
     have hfz11_10 := blk_frozen BK271.out 10
     go_upto_region 5 with (fail)
     go_cut [28] (fun v28 wc => ∃ (kq : Nat) (x28_9 : Bool), v28 = .bool x28_9 ∧ Aside0 (gristmillref12_Acc.j1 kq x28_9 a0_0 a0_1 l0_2 a0_3 a0_4 a0_5 a0_6 a0_7 l0_8 a0_9 a0_10 = some (r1, r2)) ∧ Aside0 (kq ≤ kj1) ∧ Aside0 (wc.heap[gb271]? = some (.cells #[.string a0_0, .int .i64 a0_1, (.slice A0_2 l0_2.length c0_2), .int .i64 a0_3, .int .i64 a0_4, .int .u8 a0_5, .int .i64 a0_6, .string a0_7, (.slice A0_8 l0_8.length c0_8), .bool a0_9, .int .i64 a0_10] 38 (0, 0))) ∧ Aside0 (Below w.heap.size w wc))
     case first =>
      have H := HC10.out
      clear HC10
      by_cases c12 : a0_3 < 0
      ·rw [if_pos c12] at H
       have c12b0 : decide (a0_3 < 0) = true := decide_eq_true c12
       clear c12
       (first | rw [c12b0] | (simp only [i64_w, i32_w]; rw [c12b0]) | skip)
       have H' := Aside0.mk H
       clear H
       have hcz13_0 : wc.cell? ⟨gb271, 0, none⟩ = some (.string a0_0) := (blk_cell BK271.out 0).trans rfl
       have hcz13_1 : wc.cell? ⟨gb271, 1, none⟩ = some (.int .i64 a0_1) := (blk_cell BK271.out 1).trans rfl
       have hcz13_2 : wc.cell? ⟨gb271, 2, none⟩ = some (.slice A0_2 l0_2.length c0_2) := (blk_cell BK271.out 2).trans rfl
       have hcz13_3 : wc.cell? ⟨gb271, 3, none⟩ = some (.int .i64 a0_3) := (blk_cell BK271.out 3).trans rfl
       have hcz13_4 : wc.cell? ⟨gb271, 4, none⟩ = some (.int .i64 a0_4) := (blk_cell BK271.out 4).trans rfl
       have hcz13_5 : wc.cell? ⟨gb271, 5, none⟩ = some (.int .u8 a0_5) := (blk_cell BK271.out 5).trans rfl
       have hcz13_6 : wc.cell? ⟨gb271, 6, none⟩ = some (.int .i64 a0_6) := (blk_cell BK271.out 6).trans rfl
       have hcz13_7 : wc.cell? ⟨gb271, 7, none⟩ = some (.string a0_7) := (blk_cell BK271.out 7).trans rfl
       have hcz13_8 : wc.cell? ⟨gb271, 8, none⟩ = some (.slice A0_8 l0_8.length c0_8) := (blk_cell BK271.out 8).trans rfl
       have hcz13_9 : wc.cell? ⟨gb271, 9, none⟩ = some (.bool a0_9) := (blk_cell BK271.out 9).trans rfl
       have hcz13_10 : wc.cell? ⟨gb271, 10, none⟩ = some (.int .i64 a0_10) := (blk_cell BK271.out 10).trans rfl
       have hfz13_0 := blk_frozen BK271.out 0
       have hfz13_1 := blk_frozen BK271.out 1
       have hfz13_2 := blk_frozen BK271.out 2
       have hfz13_3 := blk_frozen BK271.out 3
       have hfz13_4 := blk_frozen BK271.out 4
       have hfz13_5 := blk_frozen BK271.out 5
       have hfz13_6 := blk_frozen BK271.out 6
       have hfz13_7 := blk_frozen BK271.out 7
       have hfz13_8 := blk_frozen BK271.out 8
       have hfz13_9 := blk_frozen BK271.out 9
       have hfz13_10 := blk_frozen BK271.out 10
       go_wp2
       go_meet
       case rel => exact ⟨_, (true), (by first | rfl | (simp; done) | (simp [*]; done)), H', ⟨by have := HJ1.out; first | omega | exact Nat.le_refl _⟩, ⟨by (with_reducible repeat (first | refine blk_drewN ?_ _ | refine blk_drew ?_ | refine blk_alloc ?_ _)); exact BK271.out⟩, ⟨by repeat (first | (with_reducible first | exact HB.out | apply below_alloc | apply pw_below_drewN | apply below_drew1 | refine below_set ?_ GE271.out) | exact HB.out)⟩⟩
      ·rw [if_neg c12] at H
       have c12b0 : decide (a0_3 < 0) = false := decide_eq_false c12
       clear c12
       (first | rw [c12b0] | (simp only [i64_w, i32_w]; rw [c12b0]) | skip)
       by_cases c14 : a0_3 > 6
       ·rw [if_pos c14] at H
        have c14b0 : decide (6 < a0_3) = true := decide_eq_true c14
        clear c14
        have H' := Aside0.mk H
        clear H
        have hcz15_0 : wc.cell? ⟨gb271, 0, none⟩ = some (.string a0_0) := (blk_cell BK271.out 0).trans rfl
        have hcz15_1 : wc.cell? ⟨gb271, 1, none⟩ = some (.int .i64 a0_1) := (blk_cell BK271.out 1).trans rfl
        have hcz15_2 : wc.cell? ⟨gb271, 2, none⟩ = some (.slice A0_2 l0_2.length c0_2) := (blk_cell BK271.out 2).trans rfl
        have hcz15_3 : wc.cell? ⟨gb271, 3, none⟩ = some (.int .i64 a0_3) := (blk_cell BK271.out 3).trans rfl
        have hcz15_4 : wc.cell? ⟨gb271, 4, none⟩ = some (.int .i64 a0_4) := (blk_cell BK271.out 4).trans rfl
        have hcz15_5 : wc.cell? ⟨gb271, 5, none⟩ = some (.int .u8 a0_5) := (blk_cell BK271.out 5).trans rfl
        have hcz15_6 : wc.cell? ⟨gb271, 6, none⟩ = some (.int .i64 a0_6) := (blk_cell BK271.out 6).trans rfl
        have hcz15_7 : wc.cell? ⟨gb271, 7, none⟩ = some (.string a0_7) := (blk_cell BK271.out 7).trans rfl
        have hcz15_8 : wc.cell? ⟨gb271, 8, none⟩ = some (.slice A0_8 l0_8.length c0_8) := (blk_cell BK271.out 8).trans rfl
        have hcz15_9 : wc.cell? ⟨gb271, 9, none⟩ = some (.bool a0_9) := (blk_cell BK271.out 9).trans rfl
        have hcz15_10 : wc.cell? ⟨gb271, 10, none⟩ = some (.int .i64 a0_10) := (blk_cell BK271.out 10).trans rfl
        have hfz15_0 := blk_frozen BK271.out 0
        have hfz15_1 := blk_frozen BK271.out 1
        have hfz15_2 := blk_frozen BK271.out 2
        have hfz15_3 := blk_frozen BK271.out 3
        have hfz15_4 := blk_frozen BK271.out 4
        have hfz15_5 := blk_frozen BK271.out 5
        have hfz15_6 := blk_frozen BK271.out 6
        have hfz15_7 := blk_frozen BK271.out 7
        have hfz15_8 := blk_frozen BK271.out 8
        have hfz15_9 := blk_frozen BK271.out 9
        have hfz15_10 := blk_frozen BK271.out 10
        go_wp2
        go_meet
        case rel => exact ⟨_, (true), (by first | rfl | (simp; done) | (simp [*]; done)), H', ⟨by have := HJ1.out; first | omega | exact Nat.le_refl _⟩, ⟨by (with_reducible repeat (first | refine blk_drewN ?_ _ | refine blk_drew ?_ | refine blk_alloc ?_ _)); exact BK271.out⟩, ⟨by repeat (first | (with_reducible first | exact HB.out | apply below_alloc | apply pw_below_drewN | apply below_drew1 | refine below_set ?_ GE271.out) | exact HB.out)⟩⟩
       ·rw [if_neg c14] at H
        have c14b0 : decide (6 < a0_3) = false := decide_eq_false c14
        clear c14
        have H' := Aside0.mk H
        clear H
        have hcz16_0 : wc.cell? ⟨gb271, 0, none⟩ = some (.string a0_0) := (blk_cell BK271.out 0).trans rfl
        have hcz16_1 : wc.cell? ⟨gb271, 1, none⟩ = some (.int .i64 a0_1) := (blk_cell BK271.out 1).trans rfl
        have hcz16_2 : wc.cell? ⟨gb271, 2, none⟩ = some (.slice A0_2 l0_2.length c0_2) := (blk_cell BK271.out 2).trans rfl
        have hcz16_3 : wc.cell? ⟨gb271, 3, none⟩ = some (.int .i64 a0_3) := (blk_cell BK271.out 3).trans rfl
        have hcz16_4 : wc.cell? ⟨gb271, 4, none⟩ = some (.int .i64 a0_4) := (blk_cell BK271.out 4).trans rfl
        have hcz16_5 : wc.cell? ⟨gb271, 5, none⟩ = some (.int .u8 a0_5) := (blk_cell BK271.out 5).trans rfl
        have hcz16_6 : wc.cell? ⟨gb271, 6, none⟩ = some (.int .i64 a0_6) := (blk_cell BK271.out 6).trans rfl
        have hcz16_7 : wc.cell? ⟨gb271, 7, none⟩ = some (.string a0_7) := (blk_cell BK271.out 7).trans rfl
        have hcz16_8 : wc.cell? ⟨gb271, 8, none⟩ = some (.slice A0_8 l0_8.length c0_8) := (blk_cell BK271.out 8).trans rfl
        have hcz16_9 : wc.cell? ⟨gb271, 9, none⟩ = some (.bool a0_9) := (blk_cell BK271.out 9).trans rfl
        have hcz16_10 : wc.cell? ⟨gb271, 10, none⟩ = some (.int .i64 a0_10) := (blk_cell BK271.out 10).trans rfl
        have hfz16_0 := blk_frozen BK271.out 0
        have hfz16_1 := blk_frozen BK271.out 1
        have hfz16_2 := blk_frozen BK271.out 2
        have hfz16_3 := blk_frozen BK271.out 3
        have hfz16_4 := blk_frozen BK271.out 4
        have hfz16_5 := blk_frozen BK271.out 5
        have hfz16_6 := blk_frozen BK271.out 6
        have hfz16_7 := blk_frozen BK271.out 7
        have hfz16_8 := blk_frozen BK271.out 8
        have hfz16_9 := blk_frozen BK271.out 9
        have hfz16_10 := blk_frozen BK271.out 10
        go_wp2
        go_meet
        case rel => exact ⟨_, (((l0_2.length : Int) == 0)), (by first | rfl | (simp; done) | (simp [*]; done)), H', ⟨by have := HJ1.out; first | omega | exact Nat.le_refl _⟩, ⟨by (with_reducible repeat (first | refine blk_drewN ?_ _ | refine blk_drew ?_ | refine blk_alloc ?_ _)); exact BK271.out⟩, ⟨by repeat (first | (with_reducible first | exact HB.out | apply below_alloc | apply pw_below_drewN | apply below_drew1 | refine below_set ?_ GE271.out) | exact HB.out)⟩⟩
     case rest =>
      clear HC10
      (try clear c1); (try clear p2); (try clear c4); (try clear c4b0); (try clear c7); (try clear c8); (try clear c8b0); (try clear c8b1); (try clear c12); (try clear c12b0); (try clear c14); (try clear c14b0); (try clear c15); (try clear hcz11_0); (try clear hcz11_1); (try clear hcz11_10); (try clear hcz11_2); (try clear hcz11_3); (try clear hcz11_4); (try clear hcz11_5); (try clear hcz11_6); (try clear hcz11_7); (try clear hcz11_8); (try clear hcz11_9); (try clear hcz13_0); (try clear hcz13_1); (try clear hcz13_10); (try clear hcz13_2); (try clear hcz13_3); (try clear hcz13_4); (try clear hcz13_5); (try clear hcz13_6); (try clear hcz13_7); (try clear hcz13_8); (try clear hcz13_9); (try clear hcz15_0); (try clear hcz15_1); (try clear hcz15_10); (try clear hcz15_2); (try clear hcz15_3); (try clear hcz15_4); (try clear hcz15_5); (try clear hcz15_6); (try clear hcz15_7); (try clear hcz15_8); (try clear hcz15_9); (try clear hcz16_0); (try clear hcz16_1); (try clear hcz16_10); (try clear hcz16_2); (try clear hcz16_3); (try clear hcz16_4); (try clear hcz16_5); (try clear hcz16_6); (try clear hcz16_7); (try clear hcz16_8); (try clear hcz16_9); (try clear hcz5_0); (try clear hcz5_1); (try clear hcz5_10); (try clear hcz5_2); (try clear hcz5_3); (try clear hcz5_4); (try clear hcz5_5); (try clear hcz5_6); (try clear hcz5_7); (try clear hcz5_8); (try clear hcz5_9); (try clear hcz6_0); (try clear hcz6_1); (try clear hcz6_10); (try clear hcz6_2); (try clear hcz6_3); (try clear hcz6_4); (try clear hcz6_5); (try clear hcz6_6); (try clear hcz6_7); (try clear hcz6_8); (try clear hcz6_9); (try clear hcz9_0); (try clear hcz9_1); (try clear hcz9_10); (try clear hcz9_2); (try clear hcz9_3); (try clear hcz9_4); (try clear hcz9_5); (try clear hcz9_6); (try clear hcz9_7); (try clear hcz9_8); (try clear hcz9_9); (try clear hfz11_0); (try clear hfz11_1); (try clear hfz11_10); (try clear hfz11_2); (try clear hfz11_3); (try clear hfz11_4); (try clear hfz11_5); (try clear hfz11_6); (try clear hfz11_7); (try clear hfz11_8); (try clear hfz11_9); (try clear hfz13_0); (try clear hfz13_1); (try clear hfz13_10); (try clear hfz13_2); (try clear hfz13_3); (try clear hfz13_4); (try clear hfz13_5); (try clear hfz13_6); (try clear hfz13_7); (try clear hfz13_8); (try clear hfz13_9); (try clear hfz15_0); (try clear hfz15_1); (try clear hfz15_10); (try clear hfz15_2); (try clear hfz15_3); (try clear hfz15_4); (try clear hfz15_5); (try clear hfz15_6); (try clear hfz15_7); (try clear hfz15_8); (try clear hfz15_9); (try clear hfz16_0); (try clear hfz16_1); (try clear hfz16_10); (try clear hfz16_2); (try clear hfz16_3); (try clear hfz16_4); (try clear hfz16_5); (try clear hfz16_6); (try clear hfz16_7); (try clear hfz16_8); (try clear hfz16_9); (try clear hfz5_0); (try clear hfz5_1); (try clear hfz5_10); (try clear hfz5_2); (try clear hfz5_3); (try clear hfz5_4); (try clear hfz5_5); (try clear hfz5_6); (try clear hfz5_7); (try clear hfz5_8); (try clear hfz5_9); (try clear hfz6_0); (try clear hfz6_1); (try clear hfz6_10); (try clear hfz6_2); (try clear hfz6_3); (try clear hfz6_4); (try clear hfz6_5); (try clear hfz6_6); (try clear hfz6_7); (try clear hfz6_8); (try clear hfz6_9); (try clear hfz9_0); (try clear hfz9_1); (try clear hfz9_10); (try clear hfz9_2); (try clear hfz9_3); (try clear hfz9_4); (try clear hfz9_5); (try clear hfz9_6); (try clear hfz9_7); (try clear hfz9_8); (try clear hfz9_9); (try clear p2)
      obtain ⟨kq, x28_9, rfl, HA, HJ9, BK271, HB⟩ := hcut
      cases kq with
      | zero => exact absurd HA.out (by simp [gristmillref12_Acc.j1])
      | succ kj9 =>
       have H := HA.out
       clear HA
       simp only [gristmillref12_Acc.j1] at H
       by_cases c17 : x28_9 = true
       ·subst c17
        have H1 : (some (0, 3)) = some (r1, r2) := by rw [if_pos rfl] at H; exact H
        clear H
        have H := H1
        clear H1
        simp only [Option.some.injEq, Prod.mk.injEq] at H
        obtain ⟨rfl, rfl⟩ := H
        go_wp2
        go_ret2
        exact ⟨by first | rfl | (simp [errW_none, errW_some] <;> rfl) | (simp [*, errW_none, errW_some] <;> rfl), by repeat (first | (with_reducible first | exact HB.out | apply below_alloc | apply pw_below_drewN | apply below_drew1 | refine below_set ?_ GE271.out) | exact HB.out)⟩
       ·replace c17 := Bool.eq_false_iff.mpr c17
        subst c17
        have H1 : (if 0 < (l0_2.length : Int) then ((gristmillref12_stage.f a0_0 a0_1 l0_2 a0_3 a0_4 a0_5 a0_6 a0_7 l0_8 a0_9 a0_10).bind fun t273 => ((gristmillref12_Kind.f kj9 ((rd_T47 l0_2 0).f1.f0) ((rd_T47 l0_2 0).f1.f1.f0) ((rd_T47 l0_2 0).f1.f1.f1) ((rd_T47 l0_2 0).f1.f1.f2) ((rd_T47 l0_2 0).f1.f2) t273 0).bind fun bt274 => (some (bt274.1, bt274.2)))) else (none)) = some (r1, r2) := by rw [if_neg (show ¬ (false = true) by decide)] at H; exact H
        clear H
        have H := H1
        clear H1
        by_cases c18 : 0 < (l0_2.length : Int)
        ·rw [if_pos c18] at H
         have c18b0 : decide (0 < (l0_2.length : Int)) = true := decide_eq_true c18
         have c18b1 : decide (0 < l0_2.length) = true := decide_eq_true (by omega)
         clear c18
         replace H := Option.bind_eq_some_iff.mp H
         obtain ⟨t273, A190, H⟩ := H
         replace H : ((gristmillref12_Kind.f kj9 ((rd_T47 l0_2 0).f1.f0) ((rd_T47 l0_2 0).f1.f1.f0) ((rd_T47 l0_2 0).f1.f1.f1) ((rd_T47 l0_2 0).f1.f1.f2) ((rd_T47 l0_2 0).f1.f2) t273 0).bind fun bt274 => (some (bt274.1, bt274.2))) = some (r1, r2) := H
         have A19 := Aside0.mk A190
         clear A190
         replace H := Option.bind_eq_some_iff.mp H
         obtain ⟨⟨t274, t275⟩, A200, H⟩ := H
         replace H : (some (t274, t275)) = some (r1, r2) := H
         have A20 := Aside0.mk A200
         clear A200
         simp only [Option.some.injEq, Prod.mk.injEq] at H
         obtain ⟨rfl, rfl⟩ := H
         try go_wp2
         have n0_ := Aside0.mk (blk_drew BK271.out)
         have n1_ := Aside0.mk (below_drew1 HB.out)
         clear BK271
         clear HB
         have BK271 := n0_
         have HB := n1_
         clear n0_ n1_
         have p272 : 0 ≤ (0 : Int) := (by omega)
         have q272 : 0 < (l0_2.length : Int) := of_decide_eq_true (by first | (with_reducible assumption) | assumption)
         obtain ⟨ad272, A272_4, c272_4, A272_9, c272_9, A272_14, c272_14, e272, hx272_0, hx272_1, hx272_2, hx272_3, hx272_4, hx272_5, hx272_6, hx272_7, hx272_8, hx272_9, hx272_10, hx272_11, hx272_12, hx272_13, hx272_14, hl272_4, hi272_4, hl272_9, hi272_9, hl272_14, hi272_14⟩ := at_T47 HR0_2.out 0 p272 q272
         have hw272_14 := hx272_14
         (try rw [show ((0 : Int)).toNat = 0 from rfl] at hw272_14)
         (try rw [show 0 * 15 = 0 from rfl] at hw272_14)
         (try rw [Addr.add_zero'] at hw272_14)
         have hw272_13 := hx272_13
         (try rw [show ((0 : Int)).toNat = 0 from rfl] at hw272_13)
         (try rw [show 0 * 15 = 0 from rfl] at hw272_13)
         (try rw [Addr.add_zero'] at hw272_13)
         have hw272_12 := hx272_12
         (try rw [show ((0 : Int)).toNat = 0 from rfl] at hw272_12)
         (try rw [show 0 * 15 = 0 from rfl] at hw272_12)
         (try rw [Addr.add_zero'] at hw272_12)
         have hw272_11 := hx272_11
         (try rw [show ((0 : Int)).toNat = 0 from rfl] at hw272_11)
         (try rw [show 0 * 15 = 0 from rfl] at hw272_11)
         (try rw [Addr.add_zero'] at hw272_11)
         have hw272_10 := hx272_10
         (try rw [show ((0 : Int)).toNat = 0 from rfl] at hw272_10)
         (try rw [show 0 * 15 = 0 from rfl] at hw272_10)
         (try rw [Addr.add_zero'] at hw272_10)
         have hw272_9 := hx272_9
         (try rw [show ((0 : Int)).toNat = 0 from rfl] at hw272_9)
         (try rw [show 0 * 15 = 0 from rfl] at hw272_9)
         (try rw [Addr.add_zero'] at hw272_9)
         have hw272_8 := hx272_8
         (try rw [show ((0 : Int)).toNat = 0 from rfl] at hw272_8)
         (try rw [show 0 * 15 = 0 from rfl] at hw272_8)
         (try rw [Addr.add_zero'] at hw272_8)
         have hw272_7 := hx272_7
         (try rw [show ((0 : Int)).toNat = 0 from rfl] at hw272_7)
         (try rw [show 0 * 15 = 0 from rfl] at hw272_7)
         (try rw [Addr.add_zero'] at hw272_7)
         have hw272_6 := hx272_6
         (try rw [show ((0 : Int)).toNat = 0 from rfl] at hw272_6)
         (try rw [show 0 * 15 = 0 from rfl] at hw272_6)
         (try rw [Addr.add_zero'] at hw272_6)
         have hw272_5 := hx272_5
         (try rw [show ((0 : Int)).toNat = 0 from rfl] at hw272_5)
         (try rw [show 0 * 15 = 0 from rfl] at hw272_5)
         (try rw [Addr.add_zero'] at hw272_5)
         have hw272_4 := hx272_4
         (try rw [show ((0 : Int)).toNat = 0 from rfl] at hw272_4)
         (try rw [show 0 * 15 = 0 from rfl] at hw272_4)
         (try rw [Addr.add_zero'] at hw272_4)
         have hw272_3 := hx272_3
         (try rw [show ((0 : Int)).toNat = 0 from rfl] at hw272_3)
         (try rw [show 0 * 15 = 0 from rfl] at hw272_3)
         (try rw [Addr.add_zero'] at hw272_3)
         have hw272_2 := hx272_2
         (try rw [show ((0 : Int)).toNat = 0 from rfl] at hw272_2)
         (try rw [show 0 * 15 = 0 from rfl] at hw272_2)
         (try rw [Addr.add_zero'] at hw272_2)
         have hw272_1 := hx272_1
         (try rw [show ((0 : Int)).toNat = 0 from rfl] at hw272_1)
         (try rw [show 0 * 15 = 0 from rfl] at hw272_1)
         (try rw [Addr.add_zero'] at hw272_1)
         have hw272_0 := hx272_0
         (try rw [show ((0 : Int)).toNat = 0 from rfl] at hw272_0)
         (try rw [show 0 * 15 = 0 from rfl] at hw272_0)
         (try rw [Addr.add_zero'] at hw272_0)
         cases e272
         have qi272 : (0 < l0_2.length) = True := eq_true (by omega)
         (try rw [show ((0 : Int)).toNat = 0 from rfl] at hx272_0)
         (try rw [show 0 * 15 = 0 from rfl] at hx272_0)
         (try rw [Addr.add_zero'] at hx272_0)
         (try rw [show ((0 : Int)).toNat = 0 from rfl] at hx272_1)
         (try rw [show 0 * 15 = 0 from rfl] at hx272_1)
         (try rw [Addr.add_zero'] at hx272_1)
         (try rw [show ((0 : Int)).toNat = 0 from rfl] at hx272_2)
         (try rw [show 0 * 15 = 0 from rfl] at hx272_2)
         (try rw [Addr.add_zero'] at hx272_2)
         (try rw [show ((0 : Int)).toNat = 0 from rfl] at hx272_3)
         (try rw [show 0 * 15 = 0 from rfl] at hx272_3)
         (try rw [Addr.add_zero'] at hx272_3)
         (try rw [show ((0 : Int)).toNat = 0 from rfl] at hx272_4)
         (try rw [show 0 * 15 = 0 from rfl] at hx272_4)
         (try rw [Addr.add_zero'] at hx272_4)
         (try rw [show ((0 : Int)).toNat = 0 from rfl] at hx272_5)
         (try rw [show 0 * 15 = 0 from rfl] at hx272_5)
         (try rw [Addr.add_zero'] at hx272_5)
         (try rw [show ((0 : Int)).toNat = 0 from rfl] at hx272_6)
         (try rw [show 0 * 15 = 0 from rfl] at hx272_6)
         (try rw [Addr.add_zero'] at hx272_6)
         (try rw [show ((0 : Int)).toNat = 0 from rfl] at hx272_7)
         (try rw [show 0 * 15 = 0 from rfl] at hx272_7)
         (try rw [Addr.add_zero'] at hx272_7)
         (try rw [show ((0 : Int)).toNat = 0 from rfl] at hx272_8)
         (try rw [show 0 * 15 = 0 from rfl] at hx272_8)
         (try rw [Addr.add_zero'] at hx272_8)
         (try rw [show ((0 : Int)).toNat = 0 from rfl] at hx272_9)
         (try rw [show 0 * 15 = 0 from rfl] at hx272_9)
         (try rw [Addr.add_zero'] at hx272_9)
         (try rw [show ((0 : Int)).toNat = 0 from rfl] at hx272_10)
         (try rw [show 0 * 15 = 0 from rfl] at hx272_10)
         (try rw [Addr.add_zero'] at hx272_10)
         (try rw [show ((0 : Int)).toNat = 0 from rfl] at hx272_11)
         (try rw [show 0 * 15 = 0 from rfl] at hx272_11)
         (try rw [Addr.add_zero'] at hx272_11)
         (try rw [show ((0 : Int)).toNat = 0 from rfl] at hx272_12)
         (try rw [show 0 * 15 = 0 from rfl] at hx272_12)
         (try rw [Addr.add_zero'] at hx272_12)
         (try rw [show ((0 : Int)).toNat = 0 from rfl] at hx272_13)
         (try rw [show 0 * 15 = 0 from rfl] at hx272_13)
         (try rw [Addr.add_zero'] at hx272_13)
         (try rw [show ((0 : Int)).toNat = 0 from rfl] at hx272_14)
         (try rw [show 0 * 15 = 0 from rfl] at hx272_14)
         (try rw [Addr.add_zero'] at hx272_14)
         replace hx272_0 := (HB.out.cell (World.block_lt_of_cell? w _ hx272_0)).trans hx272_0
         replace hx272_1 := (HB.out.cell (World.block_lt_of_cell? w _ hx272_1)).trans hx272_1
         replace hx272_2 := (HB.out.cell (World.block_lt_of_cell? w _ hx272_2)).trans hx272_2
         replace hx272_3 := (HB.out.cell (World.block_lt_of_cell? w _ hx272_3)).trans hx272_3
         replace hx272_4 := (HB.out.cell (World.block_lt_of_cell? w _ hx272_4)).trans hx272_4
         replace hx272_5 := (HB.out.cell (World.block_lt_of_cell? w _ hx272_5)).trans hx272_5
         replace hx272_6 := (HB.out.cell (World.block_lt_of_cell? w _ hx272_6)).trans hx272_6
         replace hx272_7 := (HB.out.cell (World.block_lt_of_cell? w _ hx272_7)).trans hx272_7
         replace hx272_8 := (HB.out.cell (World.block_lt_of_cell? w _ hx272_8)).trans hx272_8
         replace hx272_9 := (HB.out.cell (World.block_lt_of_cell? w _ hx272_9)).trans hx272_9
         replace hx272_10 := (HB.out.cell (World.block_lt_of_cell? w _ hx272_10)).trans hx272_10
         replace hx272_11 := (HB.out.cell (World.block_lt_of_cell? w _ hx272_11)).trans hx272_11
         replace hx272_12 := (HB.out.cell (World.block_lt_of_cell? w _ hx272_12)).trans hx272_12
         replace hx272_13 := (HB.out.cell (World.block_lt_of_cell? w _ hx272_13)).trans hx272_13
         replace hx272_14 := (HB.out.cell (World.block_lt_of_cell? w _ hx272_14)).trans hx272_14
         have HR272_4 := Aside0.mk hi272_4
         have HC272_4 := Aside0.mk hl272_4
         clear hi272_4 hl272_4
         have HR272_9 := Aside0.mk hi272_9
         have HC272_9 := Aside0.mk hl272_9
         clear hi272_9 hl272_9
         have HR272_14 := Aside0.mk hi272_14
         have HC272_14 := Aside0.mk hl272_14
         clear hi272_14 hl272_14
         replace p272 := eq_true p272
         replace q272 := eq_true q272
         refine start_ (n := 12) (S := fun w' => w'.cell? ⟨gb271, 0, none⟩ = some (.string a0_0) ∧ w'.cell? ⟨gb271, 1, none⟩ = some (.int .i64 a0_1) ∧ w'.cell? ⟨gb271, 2, none⟩ = some (.slice (some ad272) l0_2.length c0_2) ∧ w'.cell? ⟨gb271, 3, none⟩ = some (.int .i64 a0_3) ∧ w'.cell? ⟨gb271, 4, none⟩ = some (.int .i64 a0_4) ∧ w'.cell? ⟨gb271, 5, none⟩ = some (.int .u8 a0_5) ∧ w'.cell? ⟨gb271, 6, none⟩ = some (.int .i64 a0_6) ∧ w'.cell? ⟨gb271, 7, none⟩ = some (.string a0_7) ∧ w'.cell? ⟨gb271, 8, none⟩ = some (.slice A0_8 l0_8.length c0_8) ∧ w'.cell? ⟨gb271, 9, none⟩ = some (.bool a0_9) ∧ w'.cell? ⟨gb271, 10, none⟩ = some (.int .i64 a0_10) ∧ w'.cell? ad272 = some (.int .i64 ((rd_T47 l0_2 0).f0.f0)) ∧ w'.cell? ⟨ad272.block, ad272.off + 1, none⟩ = some (.int .u8 ((rd_T47 l0_2 0).f0.f1.f0)) ∧ w'.cell? ⟨ad272.block, ad272.off + 2, none⟩ = some (.int .i64 ((rd_T47 l0_2 0).f0.f1.f1)) ∧ w'.cell? ⟨ad272.block, ad272.off + 3, none⟩ = some (.string ((rd_T47 l0_2 0).f0.f1.f2)) ∧ w'.cell? ⟨ad272.block, ad272.off + 4, none⟩ = some (.slice A272_4 ((rd_T47 l0_2 0).f0.f2).length c272_4) ∧ w'.cell? ⟨ad272.block, ad272.off + 5, none⟩ = some (.int .i64 ((rd_T47 l0_2 0).f1.f0)) ∧ w'.cell? ⟨ad272.block, ad272.off + 6, none⟩ = some (.int .u8 ((rd_T47 l0_2 0).f1.f1.f0)) ∧ w'.cell? ⟨ad272.block, ad272.off + 7, none⟩ = some (.int .i64 ((rd_T47 l0_2 0).f1.f1.f1)) ∧ w'.cell? ⟨ad272.block, ad272.off + 8, none⟩ = some (.string ((rd_T47 l0_2 0).f1.f1.f2)) ∧ w'.cell? ⟨ad272.block, ad272.off + 9, none⟩ = some (.slice A272_9 ((rd_T47 l0_2 0).f1.f2).length c272_9) ∧ w'.cell? ⟨ad272.block, ad272.off + 10, none⟩ = some (.int .i64 ((rd_T47 l0_2 0).f2.f0)) ∧ w'.cell? ⟨ad272.block, ad272.off + 11, none⟩ = some (.int .u8 ((rd_T47 l0_2 0).f2.f1.f0)) ∧ w'.cell? ⟨ad272.block, ad272.off + 12, none⟩ = some (.int .i64 ((rd_T47 l0_2 0).f2.f1.f1)) ∧ w'.cell? ⟨ad272.block, ad272.off + 13, none⟩ = some (.string ((rd_T47 l0_2 0).f2.f1.f2)) ∧ w'.cell? ⟨ad272.block, ad272.off + 14, none⟩ = some (.slice A272_14 ((rd_T47 l0_2 0).f2.f2).length c272_14)) (ds := []) #[false, false, false, false, false, false, false, false, false, false, false, false] (by kernel_rfl) rfl rfl ⟨(blk_cell BK271.out 0).trans rfl, (blk_cell BK271.out 1).trans rfl, (blk_cell BK271.out 2).trans rfl, (blk_cell BK271.out 3).trans rfl, (blk_cell BK271.out 4).trans rfl, (blk_cell BK271.out 5).trans rfl, (blk_cell BK271.out 6).trans rfl, (blk_cell BK271.out 7).trans rfl, (blk_cell BK271.out 8).trans rfl, (blk_cell BK271.out 9).trans rfl, (blk_cell BK271.out 10).trans rfl, ((HB.out.cell (World.block_lt_of_cell? w _ hw272_0)).trans hw272_0), ((HB.out.cell (World.block_lt_of_cell? w _ hw272_1)).trans hw272_1), ((HB.out.cell (World.block_lt_of_cell? w _ hw272_2)).trans hw272_2), ((HB.out.cell (World.block_lt_of_cell? w _ hw272_3)).trans hw272_3), ((HB.out.cell (World.block_lt_of_cell? w _ hw272_4)).trans hw272_4), ((HB.out.cell (World.block_lt_of_cell? w _ hw272_5)).trans hw272_5), ((HB.out.cell (World.block_lt_of_cell? w _ hw272_6)).trans hw272_6), ((HB.out.cell (World.block_lt_of_cell? w _ hw272_7)).trans hw272_7), ((HB.out.cell (World.block_lt_of_cell? w _ hw272_8)).trans hw272_8), ((HB.out.cell (World.block_lt_of_cell? w _ hw272_9)).trans hw272_9), ((HB.out.cell (World.block_lt_of_cell? w _ hw272_10)).trans hw272_10), ((HB.out.cell (World.block_lt_of_cell? w _ hw272_11)).trans hw272_11), ((HB.out.cell (World.block_lt_of_cell? w _ hw272_12)).trans hw272_12), ((HB.out.cell (World.block_lt_of_cell? w _ hw272_13)).trans hw272_13), ((HB.out.cell (World.block_lt_of_cell? w _ hw272_14)).trans hw272_14)⟩ (fun hHeld => ?_); refine with_tabW gristmillref12_Acc.tab7 gristmillref12_Acc.bits7 (fun HT_ HW_ => ?_)
         generalize wc.drew = w21 at BK271 HB HR272_14 HR272_4 HR272_9 hx272_0 hx272_1 hx272_10 hx272_11 hx272_12 hx272_13 hx272_14 hx272_2 hx272_3 hx272_4 hx272_5 hx272_6 hx272_7 hx272_8 hx272_9 hHeld ⊢
         refine pure_ (i := 0) (N := some 29) (v := ?_) (a' := ?_) #[true, false, false, false, false, false, false, false, false, false, false, false] rfl rfl (any_of HT_.out (by kernel_rfl)) (fun _ _ _ h => h) (Or.inl ⟨by rfl, ?_⟩) ?_ ?_
         rotate_left
         ·intro w'
          go_simp
          with_reducible rfl
         rotate_left
         ·simp only [Act.put, List.setIfInBounds_toArray, List.set_cons_zero, List.set_cons_succ, i64_w, i32_w]
          rfl
         refine take_ (i := 1) (N := some 30) (v := ?_) (a' := ?_) #[true, true, false, false, false, false, false, false, false, false, false, false] rfl rfl (take_ofW HT_.out HW_.out (by kernel_rfl)) (fun _ _ _ h => h) (Or.inl ⟨by rfl, ?_⟩) hHeld ?_ ?_
         rotate_left
         ·rintro w' ⟨s0, s1, s2, s3, s4, s5, s6, s7, s8, s9, s10, s11, s12, s13, s14, s15, s16, s17, s18, s19, s20, s21, s22, s23, s24, s25⟩
          go_simp
          with_reducible rfl
         rotate_left
         ·simp only [Act.put, List.setIfInBounds_toArray, List.set_cons_zero, List.set_cons_succ, i64_w, i32_w]
          rfl
         refine pure_ (i := 2) (N := some 31) (v := ?_) (a' := ?_) #[true, true, true, false, false, false, false, false, false, false, false, false] rfl rfl (any_of HT_.out (by kernel_rfl)) (fun _ _ _ h => h) (Or.inl ⟨by rfl, ?_⟩) ?_ ?_
         rotate_left
         ·intro w'
          go_simp
          with_reducible rfl
         rotate_left
         ·simp only [Act.put, List.setIfInBounds_toArray, List.set_cons_zero, List.set_cons_succ, i64_w, i32_w]
          rfl
         refine pure_ (i := 3) (N := some 32) (v := ?_) (a' := ?_) #[true, true, true, true, false, false, false, false, false, false, false, false] rfl rfl (any_of HT_.out (by kernel_rfl)) (fun _ _ _ h => h) (Or.inl ⟨by rfl, ?_⟩) ?_ ?_
         rotate_left
         ·intro w'
          go_simp
          with_reducible rfl
         rotate_left
         ·simp only [Act.put, List.setIfInBounds_toArray, List.set_cons_zero, List.set_cons_succ, i64_w, i32_w]
          rfl
         refine take_ (i := 4) (N := some 33) (v := ?_) (a' := ?_) #[true, true, true, true, true, false, false, false, false, false, false, false] rfl rfl (take_ofW HT_.out HW_.out (by kernel_rfl)) (fun _ _ _ h => h) (Or.inl ⟨by rfl, ?_⟩) hHeld ?_ ?_
         rotate_left
         ·rintro w' ⟨s0, s1, s2, s3, s4, s5, s6, s7, s8, s9, s10, s11, s12, s13, s14, s15, s16, s17, s18, s19, s20, s21, s22, s23, s24, s25⟩
          go_simp
          with_reducible rfl
         rotate_left
         ·simp only [Act.put, List.setIfInBounds_toArray, List.set_cons_zero, List.set_cons_succ, i64_w, i32_w]
          rfl
         refine take_ (i := 5) (N := some 34) (v := ?_) (a' := ?_) #[true, true, true, true, true, true, false, false, false, false, false, false] rfl rfl (take_ofW HT_.out HW_.out (by kernel_rfl)) (fun _ _ _ h => h) (Or.inl ⟨by rfl, ?_⟩) hHeld ?_ ?_
         rotate_left
         ·rintro w' ⟨s0, s1, s2, s3, s4, s5, s6, s7, s8, s9, s10, s11, s12, s13, s14, s15, s16, s17, s18, s19, s20, s21, s22, s23, s24, s25⟩
          go_simp
          with_reducible rfl
         rotate_left
         ·simp only [Act.put, List.setIfInBounds_toArray, List.set_cons_zero, List.set_cons_succ, i64_w, i32_w]
          rfl
         refine one_ (i := 6) (N := some 35) #[true, true, true, true, true, true, true, false, false, false, false, false] rfl rfl (one_of HT_.out (by kernel_rfl)) (by decide) (fun K hK => ?_)
         refine goes_ Try.func27 (by kernel_rfl) rfl #[.agg #[.string a0_0, .int .i64 a0_1, .slice (some ad272) l0_2.length c0_2, .int .i64 a0_3, .int .i64 a0_4, .int .u8 a0_5, .int .i64 a0_6, .string a0_7, .slice A0_8 l0_8.length c0_8, .bool a0_9, .int .i64 a0_10]] (by rfl) rfl rfl (by (try simp only [List.map_toArray, List.map_cons, List.map_nil]); first | done | rfl | (simp only [List.length_drop, List.length_take]; rfl)) ?_
         with_reducible refine (gristmillref12_stage.calls a0_0 a0_1 _ _ l0_2 a0_3 a0_4 a0_5 a0_6 a0_7 _ _ l0_8 a0_9 a0_10 t273 _ ?side1 ?side2 ?side3 ?side4 A19.out).mono ?_
         (case side1 => repeat (first | exact (Kd.C_below HR0_2.out HB.out) | (with_reducible refine Kd.C_alloc ?_ _) | (with_reducible refine Kd.C_drewN ?_ _) | (with_reducible refine Kd.C_drew ?_)))
         (case side2 => exact HC0_2.out)
         (case side3 => repeat (first | exact (Kd.C_below HR0_8.out HB.out) | (with_reducible refine Kd.C_alloc ?_ _) | (with_reducible refine Kd.C_drewN ?_ _) | (with_reducible refine Kd.C_drew ?_)))
         (case side4 => exact HC0_8.out)
         rintro e w22 ⟨rfl, hb⟩
         refine ⟨_, rfl, ?_⟩
         have n0_ := Aside0.mk (blk_below (g := gb271) (o := .cells #[.string a0_0, .int .i64 a0_1, .slice (some ad272) l0_2.length c0_2, .int .i64 a0_3, .int .i64 a0_4, .int .u8 a0_5, .int .i64 a0_6, .string a0_7, .slice A0_8 l0_8.length c0_8, .bool a0_9, .int .i64 a0_10] 38 (0, 0)) (by (with_reducible repeat (first | refine blk_drewN ?_ _ | refine blk_drew ?_ | refine blk_alloc ?_ _)); exact BK271.out) hb)
         have n1_ := Aside0.mk (below_step (by repeat (first | (with_reducible first | exact HB.out | apply below_alloc | apply pw_below_drewN | apply below_drew1 | refine below_set ?_ GE271.out) | exact HB.out)) hb)
         clear BK271
         clear HB
         have BK271 := n0_
         have HB := n1_
         clear n0_ n1_
         (try clear hb); (try clear hb2); (try clear hk); (try clear hi)
         refine hK.out _ _ ⟨(blk_cell BK271.out 0).trans rfl, (blk_cell BK271.out 1).trans rfl, (blk_cell BK271.out 2).trans rfl, (blk_cell BK271.out 3).trans rfl, (blk_cell BK271.out 4).trans rfl, (blk_cell BK271.out 5).trans rfl, (blk_cell BK271.out 6).trans rfl, (blk_cell BK271.out 7).trans rfl, (blk_cell BK271.out 8).trans rfl, (blk_cell BK271.out 9).trans rfl, (blk_cell BK271.out 10).trans rfl, ((HB.out.cell (World.block_lt_of_cell? w _ hw272_0)).trans hw272_0), ((HB.out.cell (World.block_lt_of_cell? w _ hw272_1)).trans hw272_1), ((HB.out.cell (World.block_lt_of_cell? w _ hw272_2)).trans hw272_2), ((HB.out.cell (World.block_lt_of_cell? w _ hw272_3)).trans hw272_3), ((HB.out.cell (World.block_lt_of_cell? w _ hw272_4)).trans hw272_4), ((HB.out.cell (World.block_lt_of_cell? w _ hw272_5)).trans hw272_5), ((HB.out.cell (World.block_lt_of_cell? w _ hw272_6)).trans hw272_6), ((HB.out.cell (World.block_lt_of_cell? w _ hw272_7)).trans hw272_7), ((HB.out.cell (World.block_lt_of_cell? w _ hw272_8)).trans hw272_8), ((HB.out.cell (World.block_lt_of_cell? w _ hw272_9)).trans hw272_9), ((HB.out.cell (World.block_lt_of_cell? w _ hw272_10)).trans hw272_10), ((HB.out.cell (World.block_lt_of_cell? w _ hw272_11)).trans hw272_11), ((HB.out.cell (World.block_lt_of_cell? w _ hw272_12)).trans hw272_12), ((HB.out.cell (World.block_lt_of_cell? w _ hw272_13)).trans hw272_13), ((HB.out.cell (World.block_lt_of_cell? w _ hw272_14)).trans hw272_14)⟩ (fun hHeld => ?_)
         clear hK K
         refine norm_ (a' := ?_) ?_ ?_
         rotate_left
         ·show Act.put _ (some 35) _ = _
          simp only [Act.put, List.setIfInBounds_toArray, List.set_cons_zero, List.set_cons_succ, i64_w, i32_w]
          rfl
         refine one_ (i := 7) (N := some 36) #[true, true, true, true, true, true, true, true, false, false, false, false] rfl rfl (one_of HT_.out (by kernel_rfl)) (by decide) (fun K hK => ?_)
         refine goes_ Try.func9 (by kernel_rfl) rfl #[.agg #[.int .i64 ((rd_T47 l0_2 0).f1.f0), .int .u8 ((rd_T47 l0_2 0).f1.f1.f0), .int .i64 ((rd_T47 l0_2 0).f1.f1.f1), .string ((rd_T47 l0_2 0).f1.f1.f2), .slice A272_9 ((rd_T47 l0_2 0).f1.f2).length c272_9], .int .i64 t273, .int .i64 0] (by rfl) rfl rfl (by (try simp only [List.map_toArray, List.map_cons, List.map_nil]); first | done | rfl | (simp only [List.length_drop, List.length_take]; rfl)) ?_
         with_reducible refine (gristmillref12_Kind.calls kj9 ((rd_T47 l0_2 0).f1.f0) ((rd_T47 l0_2 0).f1.f1.f0) ((rd_T47 l0_2 0).f1.f1.f1) ((rd_T47 l0_2 0).f1.f1.f2) _ _ ((rd_T47 l0_2 0).f1.f2) t273 0 t274 t275 _ ?side1 ?side2 A20.out).mono ?_
         (case side1 => repeat (first | exact (Kd.C_below HR272_9.out HB.out) | (with_reducible refine Kd.C_alloc ?_ _) | (with_reducible refine Kd.C_drewN ?_ _) | (with_reducible refine Kd.C_drew ?_)))
         (case side2 => exact HC272_9.out)
         rintro e w23 ⟨rfl, hb⟩
         refine ⟨_, rfl, ?_⟩
         have n0_ := Aside0.mk (blk_below (g := gb271) (o := .cells #[.string a0_0, .int .i64 a0_1, .slice (some ad272) l0_2.length c0_2, .int .i64 a0_3, .int .i64 a0_4, .int .u8 a0_5, .int .i64 a0_6, .string a0_7, .slice A0_8 l0_8.length c0_8, .bool a0_9, .int .i64 a0_10] 38 (0, 0)) (by (with_reducible repeat (first | refine blk_drewN ?_ _ | refine blk_drew ?_ | refine blk_alloc ?_ _)); exact BK271.out) hb)
         have n1_ := Aside0.mk (below_step (by repeat (first | (with_reducible first | exact HB.out | apply below_alloc | apply pw_below_drewN | apply below_drew1 | refine below_set ?_ GE271.out) | exact HB.out)) hb)
         clear BK271
         clear HB
         have BK271 := n0_
         have HB := n1_
         clear n0_ n1_
         (try clear hb); (try clear hb2); (try clear hk); (try clear hi)
         refine hK.out _ _ ⟨(blk_cell BK271.out 0).trans rfl, (blk_cell BK271.out 1).trans rfl, (blk_cell BK271.out 2).trans rfl, (blk_cell BK271.out 3).trans rfl, (blk_cell BK271.out 4).trans rfl, (blk_cell BK271.out 5).trans rfl, (blk_cell BK271.out 6).trans rfl, (blk_cell BK271.out 7).trans rfl, (blk_cell BK271.out 8).trans rfl, (blk_cell BK271.out 9).trans rfl, (blk_cell BK271.out 10).trans rfl, ((HB.out.cell (World.block_lt_of_cell? w _ hw272_0)).trans hw272_0), ((HB.out.cell (World.block_lt_of_cell? w _ hw272_1)).trans hw272_1), ((HB.out.cell (World.block_lt_of_cell? w _ hw272_2)).trans hw272_2), ((HB.out.cell (World.block_lt_of_cell? w _ hw272_3)).trans hw272_3), ((HB.out.cell (World.block_lt_of_cell? w _ hw272_4)).trans hw272_4), ((HB.out.cell (World.block_lt_of_cell? w _ hw272_5)).trans hw272_5), ((HB.out.cell (World.block_lt_of_cell? w _ hw272_6)).trans hw272_6), ((HB.out.cell (World.block_lt_of_cell? w _ hw272_7)).trans hw272_7), ((HB.out.cell (World.block_lt_of_cell? w _ hw272_8)).trans hw272_8), ((HB.out.cell (World.block_lt_of_cell? w _ hw272_9)).trans hw272_9), ((HB.out.cell (World.block_lt_of_cell? w _ hw272_10)).trans hw272_10), ((HB.out.cell (World.block_lt_of_cell? w _ hw272_11)).trans hw272_11), ((HB.out.cell (World.block_lt_of_cell? w _ hw272_12)).trans hw272_12), ((HB.out.cell (World.block_lt_of_cell? w _ hw272_13)).trans hw272_13), ((HB.out.cell (World.block_lt_of_cell? w _ hw272_14)).trans hw272_14)⟩ (fun hHeld => ?_)
         clear hK K
         refine norm_ (a' := ?_) ?_ ?_
         rotate_left
         ·show Act.put _ (some 36) _ = _
          simp only [Act.put, List.setIfInBounds_toArray, List.set_cons_zero, List.set_cons_succ, i64_w, i32_w]
          rfl
         refine pure_ (i := 8) (N := some 37) (v := ?_) (a' := ?_) #[true, true, true, true, true, true, true, true, true, false, false, false] rfl rfl (any_of HT_.out (by kernel_rfl)) (fun _ _ _ h => h) (Or.inl ⟨by rfl, ?_⟩) ?_ ?_
         rotate_left
         ·intro w'
          go_simp
          with_reducible rfl
         rotate_left
         ·simp only [Act.put, List.setIfInBounds_toArray, List.set_cons_zero, List.set_cons_succ, i64_w, i32_w]
          rfl
         refine pure_ (i := 9) (N := some 38) (v := ?_) (a' := ?_) #[true, true, true, true, true, true, true, true, true, true, false, false] rfl rfl (any_of HT_.out (by kernel_rfl)) (fun _ _ _ h => h) (Or.inl ⟨by rfl, ?_⟩) ?_ ?_
         rotate_left
         ·intro w'
          go_simp
          with_reducible rfl
         rotate_left
         ·simp only [Act.put, List.setIfInBounds_toArray, List.set_cons_zero, List.set_cons_succ, i64_w, i32_w]
          rfl
         refine pure_ (i := 10) (N := some 2) (v := ?_) (a' := ?_) #[true, true, true, true, true, true, true, true, true, true, true, false] rfl rfl (any_of HT_.out (by kernel_rfl)) (fun _ _ _ h => h) (Or.inl ⟨by rfl, ?_⟩) ?_ ?_
         rotate_left
         ·intro w'
          go_simp
          with_reducible rfl
         rotate_left
         ·simp only [Act.put, List.setIfInBounds_toArray, List.set_cons_zero, List.set_cons_succ, i64_w, i32_w]
          rfl
         refine pure_ (i := 11) (N := some 3) (v := ?_) (a' := ?_) #[true, true, true, true, true, true, true, true, true, true, true, true] rfl rfl (any_of HT_.out (by kernel_rfl)) (fun _ _ _ h => h) (Or.inl ⟨by rfl, ?_⟩) ?_ ?_
         rotate_left
         ·intro w'
          go_simp
          with_reducible rfl
         rotate_left
         ·simp only [Act.put, List.setIfInBounds_toArray, List.set_cons_zero, List.set_cons_succ, i64_w, i32_w]
          rfl
         refine done_ (done_of HT_.out (by kernel_rfl)) ?_
         try go_wp2
         go_ret2
         exact ⟨by first | rfl | (simp [errW_none, errW_some] <;> rfl) | (simp [*, errW_none, errW_some] <;> rfl), by repeat (first | (with_reducible first | exact HB.out | apply below_alloc | apply pw_below_drewN | apply below_drew1 | refine below_set ?_ GE271.out) | exact HB.out)⟩
        ·rw [if_neg c18] at H
         exact absurd H (by simp)
end Go.Proofs.Ytejeaiplbhgfdaa.Ck
