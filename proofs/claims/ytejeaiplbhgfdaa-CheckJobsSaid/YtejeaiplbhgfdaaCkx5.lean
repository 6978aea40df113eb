-- WRITTEN BY given-print.py, trimx.py, shrink.py (wip/tools), programs of this session's, out of the translation
import Derived.Test.YtejeaiplbhgfdaaCkx0
import Derived.Test.YtejeaiplbhgfdaaCkx4
namespace Go.Proofs.Ytejeaiplbhgfdaa.Ck
open Go.RowKit Go.Proofs.YtejeaiplbhgfdaaW.PrintWords Go.Proofs.YtejeaiplbhgfdaaW.PrintLast Go.Proofs.YtejeaiplbhgfdaaW.PrintMore
attribute [local go_sem] max2_int min2_int max_two min_two max_three min_three max_four min_four   -- for this text's walks alone
set_option linter.unusedVariables false
set_option linter.unusedSimpArgs false
mutual
def gristmillref11_Big.j0 : Nat → Bool → ByteArray → Int → List (S47) → Int → Int → Int → Int → ByteArray → List (S26) → Bool → Int → Option (Bool)
 | 0, _, _, _, _, _, _, _, _, _, _, _, _ => none
 | k + 1, x18, x187000, x187001, x187002, x187003, x187004, x187005, x187006, x187007, x187008, x187009, x187010 => if x18 = true then (some true) else (gristmillref11_Big.l0 k 0 x187000 x187001 x187002 x187003 x187004 x187005 x187006 x187007 x187008 x187009 x187010)
def gristmillref11_Big.l0 : Nat → Int → ByteArray → Int → List (S47) → Int → Int → Int → Int → ByteArray → List (S26) → Bool → Int → Option (Bool)
 | 0, _, _, _, _, _, _, _, _, _, _, _, _ => none
 | k + 1, x3, x187000, x187001, x187002, x187003, x187004, x187005, x187006, x187007, x187008, x187009, x187010 => if x3 < (x187002.length : Int) then (if 0 ≤ x3 then ((gristmillref09_Big.f k ((rd_T47 x187002 x3).f0.f0) ((rd_T47 x187002 x3).f0.f1.f0) ((rd_T47 x187002 x3).f0.f1.f1) ((rd_T47 x187002 x3).f0.f1.f2) ((rd_T47 x187002 x3).f0.f2)).bind fun t189 => (if t189 = true then (some true) else ((gristmillref09_Big.f k ((rd_T47 x187002 x3).f1.f0) ((rd_T47 x187002 x3).f1.f1.f0) ((rd_T47 x187002 x3).f1.f1.f1) ((rd_T47 x187002 x3).f1.f1.f2) ((rd_T47 x187002 x3).f1.f2)).bind fun t191 => (if t191 = true then (some true) else ((gristmillref09_Big.f k ((rd_T47 x187002 x3).f2.f0) ((rd_T47 x187002 x3).f2.f1.f0) ((rd_T47 x187002 x3).f2.f1.f1) ((rd_T47 x187002 x3).f2.f1.f2) ((rd_T47 x187002 x3).f2.f2)).bind fun t193 => (if t193 = true then (some true) else (gristmillref11_Big.l0 k (wrap64 (x3 + 1)) x187000 x187001 x187002 x187003 x187004 x187005 x187006 x187007 x187008 x187009 x187010))))))) else (none)) else (some false)
end
def gristmillref11_Big.f (k : Nat) (a0_0 : ByteArray) (a0_1 : Int) (l0_2 : List (S47)) (a0_3 : Int) (a0_4 : Int) (a0_5 : Int) (a0_6 : Int) (a0_7 : ByteArray) (l0_8 : List (S26)) (a0_9 : Bool) (a0_10 : Int) : Option (Bool) := if (l0_2.length : Int) > 20 then (gristmillref11_Big.j0 k true a0_0 a0_1 l0_2 a0_3 a0_4 a0_5 a0_6 a0_7 l0_8 a0_9 a0_10) else (if (a0_0.size : Int) > 200 then (gristmillref11_Big.j0 k true a0_0 a0_1 l0_2 a0_3 a0_4 a0_5 a0_6 a0_7 l0_8 a0_9 a0_10) else ((gristmillref09_Big.f k a0_4 a0_5 a0_6 a0_7 l0_8).bind fun t187 => (gristmillref11_Big.j0 k t187 a0_0 a0_1 l0_2 a0_3 a0_4 a0_5 a0_6 a0_7 l0_8 a0_9 a0_10)))
set_option maxHeartbeats 8000000 in
set_option maxRecDepth 100000 in
theorem gristmillref11_Big.calls (k : Nat) (a0_0 : ByteArray) (a0_1 : Int) (A0_2 : Option Addr) (c0_2 : Nat) (l0_2 : List (S47)) (a0_3 : Int) (a0_4 : Int) (a0_5 : Int) (a0_6 : Int) (a0_7 : ByteArray) (A0_8 : Option Addr) (c0_8 : Nat) (l0_8 : List (S26)) (a0_9 : Bool) (a0_10 : Int) (r : Bool) (w : World) (hr0_2 : Kd.C k47 w A0_2 l0_2.length l0_2) (hc0_2 : l0_2.length ≤ c0_2) (hr0_8 : Kd.C k26 w A0_8 l0_8.length l0_8) (hc0_8 : l0_8.length ≤ c0_8) (h : gristmillref11_Big.f k a0_0 a0_1 l0_2 a0_3 a0_4 a0_5 a0_6 a0_7 l0_8 a0_9 a0_10 = some r) :
 Calls Try.prog 11 #[.agg #[.string a0_0, .int .i64 a0_1, .slice A0_2 l0_2.length c0_2, .int .i64 a0_3, .int .i64 a0_4, .int .u8 a0_5, .int .i64 a0_6, .string a0_7, .slice A0_8 l0_8.length c0_8, .bool a0_9, .int .i64 a0_10]] w fun e w' => e = .returned (.bool r) ∧ Below w.heap.size w w' := by
 have hu38 := Try.underlying38
 have hu26 := Try.underlying26
 have HR0_2 := Aside0.mk hr0_2
 have HC0_2 := Aside0.mk hc0_2
 clear hr0_2 hc0_2
 have HR0_8 := Aside0.mk hr0_8
 have HC0_8 := Aside0.mk hc0_8
 clear hr0_8 hc0_8
 have HB := Aside0.mk (Below.refl w.heap.size w)
 have H : (if (l0_2.length : Int) > 20 then (gristmillref11_Big.j0 k true a0_0 a0_1 l0_2 a0_3 a0_4 a0_5 a0_6 a0_7 l0_8 a0_9 a0_10) else (if (a0_0.size : Int) > 200 then (gristmillref11_Big.j0 k true a0_0 a0_1 l0_2 a0_3 a0_4 a0_5 a0_6 a0_7 l0_8 a0_9 a0_10) else ((gristmillref09_Big.f k a0_4 a0_5 a0_6 a0_7 l0_8).bind fun t187 => (gristmillref11_Big.j0 k t187 a0_0 a0_1 l0_2 a0_3 a0_4 a0_5 a0_6 a0_7 l0_8 a0_9 a0_10)))) = some r := h
 clear h
 have HC2 := Aside0.mk H
 clear H
 go_enter Try.func11, Try.ntmps11
 go_upto_region 1 with (first | ((with_reducible refine gate_dst (N := 1) rfl ?_); (try (refine gate_guard (by rfl) ?_; dsimp only)); refine box_event ?hg (N := 1) ?hd (cs := #[.string a0_0, .int .i64 a0_1, .slice A0_2 l0_2.length c0_2, .int .i64 a0_3, .int .i64 a0_4, .int .u8 a0_5, .int .i64 a0_6, .string a0_7, .slice A0_8 l0_8.length c0_8, .bool a0_9, .int .i64 a0_10]) (t := 38) ?hr ?_; (case hd => rfl); (case hg => rfl); (case hr => first | (go_simp; done) | (go_simp; rfl)); intro gb186 hg w3 hbox hb; have n0_ := Aside0.mk (below_step (by repeat (first | (with_reducible first | exact HB.out | apply below_alloc | apply pw_below_drewN | apply below_drew1) | exact HB.out)) hb); have n1_ := Aside0.mk (hbox); have n2_ := Aside0.mk ((by rw [hg]; exact (below_size (by repeat (first | (with_reducible first | exact HB.out | apply below_alloc | apply pw_below_drewN | apply below_drew1) | exact HB.out))) : w.heap.size ≤ gb186)); have n3_ := Aside0.mk ((by rw [hg]; exact (below_size (by repeat (first | (with_reducible first | exact HB.out | apply below_alloc | apply pw_below_drewN | apply below_drew1) | exact HB.out))) : w.heap.size ≤ gb186)); clear HB; have HB := n0_; have BK186 := n1_; have GW186 := n2_; have GE186 := n3_; clear n0_ n1_ n2_ n3_; clear hb hbox hg))
 (try simp only [Act.put, List.setIfInBounds_toArray, List.set_cons_zero, List.set_cons_succ])
 go_cut [18] (fun v18 wc => ∃ (kq : Nat) (x18_1 : Bool), v18 = .bool x18_1 ∧ Aside0 (gristmillref11_Big.j0 kq x18_1 a0_0 a0_1 l0_2 a0_3 a0_4 a0_5 a0_6 a0_7 l0_8 a0_9 a0_10 = some r) ∧ Aside0 (kq ≤ k) ∧ Aside0 (wc.heap[gb186]? = some (.cells #[.string a0_0, .int .i64 a0_1, (.slice A0_2 l0_2.length c0_2), .int .i64 a0_3, .int .i64 a0_4, .int .u8 a0_5, .int .i64 a0_6, .string a0_7, (.slice A0_8 l0_8.length c0_8), .bool a0_9, .int .i64 a0_10] 38 (0, 0))) ∧ Aside0 (Below w.heap.size w wc))
 case first =>
  have H := HC2.out
  clear HC2
  by_cases c4 : (l0_2.length : Int) > 20
  ·rw [if_pos c4] at H
   have c4b0 : decide (20 < (l0_2.length : Int)) = true := decide_eq_true c4
   have c4b1 : decide (20 < l0_2.length) = true := decide_eq_true (by omega)
   clear c4
   (first | rw [c4b0] | (simp only [i64_w, i32_w]; rw [c4b0]) | skip)
   have H' := Aside0.mk H
   clear H
   have hcz5_0 : w3.cell? ⟨gb186, 0, none⟩ = some (.string a0_0) := (blk_cell BK186.out 0).trans rfl
   have hcz5_1 : w3.cell? ⟨gb186, 1, none⟩ = some (.int .i64 a0_1) := (blk_cell BK186.out 1).trans rfl
   have hcz5_2 : w3.cell? ⟨gb186, 2, none⟩ = some (.slice A0_2 l0_2.length c0_2) := (blk_cell BK186.out 2).trans rfl
   have hcz5_3 : w3.cell? ⟨gb186, 3, none⟩ = some (.int .i64 a0_3) := (blk_cell BK186.out 3).trans rfl
   have hcz5_4 : w3.cell? ⟨gb186, 4, none⟩ = some (.int .i64 a0_4) := (blk_cell BK186.out 4).trans rfl
   have hcz5_5 : w3.cell? ⟨gb186, 5, none⟩ = some (.int .u8 a0_5) := (blk_cell BK186.out 5).trans rfl
   have hcz5_6 : w3.cell? ⟨gb186, 6, none⟩ = some (.int .i64 a0_6) := (blk_cell BK186.out 6).trans rfl
   have hcz5_7 : w3.cell? ⟨gb186, 7, none⟩ = some (.string a0_7) := (blk_cell BK186.out 7).trans rfl
   have hcz5_8 : w3.cell? ⟨gb186, 8, none⟩ = some (.slice A0_8 l0_8.length c0_8) := (blk_cell BK186.out 8).trans rfl
   have hcz5_9 : w3.cell? ⟨gb186, 9, none⟩ = some (.bool a0_9) := (blk_cell BK186.out 9).trans rfl
   have hcz5_10 : w3.cell? ⟨gb186, 10, none⟩ = some (.int .i64 a0_10) := (blk_cell BK186.out 10).trans rfl
   have hfz5_0 := blk_frozen BK186.out 0
   have hfz5_1 := blk_frozen BK186.out 1
   have hfz5_2 := blk_frozen BK186.out 2
   have hfz5_3 := blk_frozen BK186.out 3
   have hfz5_4 := blk_frozen BK186.out 4
   have hfz5_5 := blk_frozen BK186.out 5
   have hfz5_6 := blk_frozen BK186.out 6
   have hfz5_7 := blk_frozen BK186.out 7
   have hfz5_8 := blk_frozen BK186.out 8
   have hfz5_9 := blk_frozen BK186.out 9
   have hfz5_10 := blk_frozen BK186.out 10
   go_wp2
   go_meet
   case rel => exact ⟨_, (true), (by first | rfl | (simp; done) | (simp [*]; done)), H', ⟨by first | omega | exact Nat.le_refl _⟩, ⟨by (with_reducible repeat (first | refine blk_drewN ?_ _ | refine blk_drew ?_ | refine blk_alloc ?_ _)); exact BK186.out⟩, ⟨by repeat (first | (with_reducible first | exact HB.out | apply below_alloc | apply pw_below_drewN | apply below_drew1 | refine below_set ?_ GE186.out) | exact HB.out)⟩⟩
  ·rw [if_neg c4] at H
   have c4b0 : decide (20 < (l0_2.length : Int)) = false := decide_eq_false c4
   have c4b1 : decide (20 < l0_2.length) = false := decide_eq_false (by omega)
   clear c4
   (first | rw [c4b0] | (simp only [i64_w, i32_w]; rw [c4b0]) | skip)
   by_cases c6 : (a0_0.size : Int) > 200
   ·rw [if_pos c6] at H
    have c6b0 : decide (200 < (a0_0.size : Int)) = true := decide_eq_true c6
    have c6b1 : decide (200 < a0_0.size) = true := decide_eq_true (by omega)
    clear c6
    have H' := Aside0.mk H
    clear H
    have hcz7_0 : w3.cell? ⟨gb186, 0, none⟩ = some (.string a0_0) := (blk_cell BK186.out 0).trans rfl
    have hcz7_1 : w3.cell? ⟨gb186, 1, none⟩ = some (.int .i64 a0_1) := (blk_cell BK186.out 1).trans rfl
    have hcz7_2 : w3.cell? ⟨gb186, 2, none⟩ = some (.slice A0_2 l0_2.length c0_2) := (blk_cell BK186.out 2).trans rfl
    have hcz7_3 : w3.cell? ⟨gb186, 3, none⟩ = some (.int .i64 a0_3) := (blk_cell BK186.out 3).trans rfl
    have hcz7_4 : w3.cell? ⟨gb186, 4, none⟩ = some (.int .i64 a0_4) := (blk_cell BK186.out 4).trans rfl
    have hcz7_5 : w3.cell? ⟨gb186, 5, none⟩ = some (.int .u8 a0_5) := (blk_cell BK186.out 5).trans rfl
    have hcz7_6 : w3.cell? ⟨gb186, 6, none⟩ = some (.int .i64 a0_6) := (blk_cell BK186.out 6).trans rfl
    have hcz7_7 : w3.cell? ⟨gb186, 7, none⟩ = some (.string a0_7) := (blk_cell BK186.out 7).trans rfl
    have hcz7_8 : w3.cell? ⟨gb186, 8, none⟩ = some (.slice A0_8 l0_8.length c0_8) := (blk_cell BK186.out 8).trans rfl
    have hcz7_9 : w3.cell? ⟨gb186, 9, none⟩ = some (.bool a0_9) := (blk_cell BK186.out 9).trans rfl
    have hcz7_10 : w3.cell? ⟨gb186, 10, none⟩ = some (.int .i64 a0_10) := (blk_cell BK186.out 10).trans rfl
    have hfz7_0 := blk_frozen BK186.out 0
    have hfz7_1 := blk_frozen BK186.out 1
    have hfz7_2 := blk_frozen BK186.out 2
    have hfz7_3 := blk_frozen BK186.out 3
    have hfz7_4 := blk_frozen BK186.out 4
    have hfz7_5 := blk_frozen BK186.out 5
    have hfz7_6 := blk_frozen BK186.out 6
    have hfz7_7 := blk_frozen BK186.out 7
    have hfz7_8 := blk_frozen BK186.out 8
    have hfz7_9 := blk_frozen BK186.out 9
    have hfz7_10 := blk_frozen BK186.out 10
    go_wp2
    go_meet
    case rel => exact ⟨_, (true), (by first | rfl | (simp; done) | (simp [*]; done)), H', ⟨by first | omega | exact Nat.le_refl _⟩, ⟨by (with_reducible repeat (first | refine blk_drewN ?_ _ | refine blk_drew ?_ | refine blk_alloc ?_ _)); exact BK186.out⟩, ⟨by repeat (first | (with_reducible first | exact HB.out | apply below_alloc | apply pw_below_drewN | apply below_drew1 | refine below_set ?_ GE186.out) | exact HB.out)⟩⟩
   ·rw [if_neg c6] at H
    have c6b0 : decide (200 < (a0_0.size : Int)) = false := decide_eq_false c6
    have c6b1 : decide (200 < a0_0.size) = false := decide_eq_false (by omega)
    clear c6
    replace H := Option.bind_eq_some_iff.mp H
    obtain ⟨t187, A80, H⟩ := H
    replace H : (gristmillref11_Big.j0 k t187 a0_0 a0_1 l0_2 a0_3 a0_4 a0_5 a0_6 a0_7 l0_8 a0_9 a0_10) = some r := H
    have A8 := Aside0.mk A80
    clear A80
    have H' := Aside0.mk H
    clear H
    have hcz9_0 : w3.cell? ⟨gb186, 0, none⟩ = some (.string a0_0) := (blk_cell BK186.out 0).trans rfl
    have hcz9_1 : w3.cell? ⟨gb186, 1, none⟩ = some (.int .i64 a0_1) := (blk_cell BK186.out 1).trans rfl
    have hcz9_2 : w3.cell? ⟨gb186, 2, none⟩ = some (.slice A0_2 l0_2.length c0_2) := (blk_cell BK186.out 2).trans rfl
    have hcz9_3 : w3.cell? ⟨gb186, 3, none⟩ = some (.int .i64 a0_3) := (blk_cell BK186.out 3).trans rfl
    have hcz9_4 : w3.cell? ⟨gb186, 4, none⟩ = some (.int .i64 a0_4) := (blk_cell BK186.out 4).trans rfl
    have hcz9_5 : w3.cell? ⟨gb186, 5, none⟩ = some (.int .u8 a0_5) := (blk_cell BK186.out 5).trans rfl
    have hcz9_6 : w3.cell? ⟨gb186, 6, none⟩ = some (.int .i64 a0_6) := (blk_cell BK186.out 6).trans rfl
    have hcz9_7 : w3.cell? ⟨gb186, 7, none⟩ = some (.string a0_7) := (blk_cell BK186.out 7).trans rfl
    have hcz9_8 : w3.cell? ⟨gb186, 8, none⟩ = some (.slice A0_8 l0_8.length c0_8) := (blk_cell BK186.out 8).trans rfl
    have hcz9_9 : w3.cell? ⟨gb186, 9, none⟩ = some (.bool a0_9) := (blk_cell BK186.out 9).trans rfl
    have hcz9_10 : w3.cell? ⟨gb186, 10, none⟩ = some (.int .i64 a0_10) := (blk_cell BK186.out 10).trans rfl
    have hfz9_0 := blk_frozen BK186.out 0
    have hfz9_1 := blk_frozen BK186.out 1
    have hfz9_2 := blk_frozen BK186.out 2
    have hfz9_3 := blk_frozen BK186.out 3
    have hfz9_4 := blk_frozen BK186.out 4
    have hfz9_5 := blk_frozen BK186.out 5
    have hfz9_6 := blk_frozen BK186.out 6
    have hfz9_7 := blk_frozen BK186.out 7
    have hfz9_8 := blk_frozen BK186.out 8
    have hfz9_9 := blk_frozen BK186.out 9
    have hfz9_10 := blk_frozen BK186.out 10
    go_wp2_with (first | (go_at_call 6; (with_reducible refine (gristmillref09_Big.calls k a0_4 a0_5 a0_6 a0_7 _ _ l0_8 t187 _ ?side1 ?side2 A8.out).mono ?_); (case side1 => repeat (first | exact (Kd.C_below HR0_8.out HB.out) | (with_reducible refine Kd.C_alloc ?_ _) | (with_reducible refine Kd.C_drewN ?_ _) | (with_reducible refine Kd.C_drew ?_))); (case side2 => exact HC0_8.out); rintro e w10 ⟨rfl, hb⟩; have n0_ := Aside0.mk (blk_below (g := gb186) (o := .cells #[.string a0_0, .int .i64 a0_1, .slice A0_2 l0_2.length c0_2, .int .i64 a0_3, .int .i64 a0_4, .int .u8 a0_5, .int .i64 a0_6, .string a0_7, .slice A0_8 l0_8.length c0_8, .bool a0_9, .int .i64 a0_10] 38 (0, 0)) (by (with_reducible repeat (first | refine blk_drewN ?_ _ | refine blk_drew ?_ | refine blk_alloc ?_ _)); exact BK186.out) hb); have n1_ := Aside0.mk (below_step (by repeat (first | (with_reducible first | exact HB.out | apply below_alloc | apply pw_below_drewN | apply below_drew1 | refine below_set ?_ GE186.out) | exact HB.out)) hb); clear BK186; clear HB; have BK186 := n0_; have HB := n1_; clear n0_ n1_; (try clear hb); (try clear hb2); (try clear hk); (try clear hi)))
    go_meet
    case rel => exact ⟨_, (t187), (by first | rfl | (simp; done) | (simp [*]; done)), H', ⟨by first | omega | exact Nat.le_refl _⟩, ⟨by (with_reducible repeat (first | refine blk_drewN ?_ _ | refine blk_drew ?_ | refine blk_alloc ?_ _)); exact BK186.out⟩, ⟨by repeat (first | (with_reducible first | exact HB.out | apply below_alloc | apply pw_below_drewN | apply below_drew1 | refine below_set ?_ GE186.out) | exact HB.out)⟩⟩
 case rest =>
  clear HC2
  (try clear c1); (try clear p2); (try clear c4); (try clear c4b0); (try clear c4b1); (try clear c6); (try clear c6b0); (try clear c6b1); (try clear hcz5_0); (try clear hcz5_1); (try clear hcz5_10); (try clear hcz5_2); (try clear hcz5_3); (try clear hcz5_4); (try clear hcz5_5); (try clear hcz5_6); (try clear hcz5_7); (try clear hcz5_8); (try clear hcz5_9); (try clear hcz7_0); (try clear hcz7_1); (try clear hcz7_10); (try clear hcz7_2); (try clear hcz7_3); (try clear hcz7_4); (try clear hcz7_5); (try clear hcz7_6); (try clear hcz7_7); (try clear hcz7_8); (try clear hcz7_9); (try clear hcz9_0); (try clear hcz9_1); (try clear hcz9_10); (try clear hcz9_2); (try clear hcz9_3); (try clear hcz9_4); (try clear hcz9_5); (try clear hcz9_6); (try clear hcz9_7); (try clear hcz9_8); (try clear hcz9_9); (try clear hfz5_0); (try clear hfz5_1); (try clear hfz5_10); (try clear hfz5_2); (try clear hfz5_3); (try clear hfz5_4); (try clear hfz5_5); (try clear hfz5_6); (try clear hfz5_7); (try clear hfz5_8); (try clear hfz5_9); (try clear hfz7_0); (try clear hfz7_1); (try clear hfz7_10); (try clear hfz7_2); (try clear hfz7_3); (try clear hfz7_4); (try clear hfz7_5); (try clear hfz7_6); (try clear hfz7_7); (try clear hfz7_8); (try clear hfz7_9); (try clear hfz9_0); (try clear hfz9_1); (try clear hfz9_10); (try clear hfz9_2); (try clear hfz9_3); (try clear hfz9_4); (try clear hfz9_5); (try clear hfz9_6); (try clear hfz9_7); (try clear hfz9_8); (try clear hfz9_9)
  obtain ⟨kq, x18_1, rfl, HA, HJ1, BK186, HB⟩ := hcut
  cases kq with
  | zero => exact absurd HA.out (by simp [gristmillref11_Big.j0])
  | succ kj1 =>
   have H := HA.out
   clear HA
   simp only [gristmillref11_Big.j0] at H
   by_cases c11 : x18_1 = true
   ·subst c11
    have H1 : (some true) = some r := by rw [if_pos rfl] at H; exact H
    clear H
    have H := H1
    clear H1
    obtain rfl := Option.some.inj H
    go_wp2
    go_ret
    exact ⟨by first | rfl | (simp [errW_none, errW_some] <;> rfl) | (simp [*, errW_none, errW_some] <;> rfl), by repeat (first | (with_reducible first | exact HB.out | apply below_alloc | apply pw_below_drewN | apply below_drew1 | refine below_set ?_ GE186.out) | exact HB.out)⟩
   ·replace c11 := Bool.eq_false_iff.mpr c11
    subst c11
    have H1 : (gristmillref11_Big.l0 kj1 0 a0_0 a0_1 l0_2 a0_3 a0_4 a0_5 a0_6 a0_7 l0_8 a0_9 a0_10) = some r := by rw [if_neg (show ¬ (false = true) by decide)] at H; exact H
    clear H
    have H := H1
    clear H1
    have H' := Aside0.mk H
    clear H
    go_wp2
    go_loopg [3] kj1 (fun kq v3 w' => ∃ (x3_2 : Int), v3 = .int .i64 x3_2 ∧ Aside0 (gristmillref11_Big.l0 kq x3_2 a0_0 a0_1 l0_2 a0_3 a0_4 a0_5 a0_6 a0_7 l0_8 a0_9 a0_10 = some r) ∧ Aside0 (kq ≤ kj1) ∧ Aside0 (w'.heap[gb186]? = some (.cells #[.string a0_0, .int .i64 a0_1, (.slice A0_2 l0_2.length c0_2), .int .i64 a0_3, .int .i64 a0_4, .int .u8 a0_5, .int .i64 a0_6, .string a0_7, (.slice A0_8 l0_8.length c0_8), .bool a0_9, .int .i64 a0_10] 38 (0, 0))) ∧ Aside0 (Below w.heap.size w w'))
    case atStart => exact ⟨(0), (by first | rfl | (simp; done) | (simp [*]; done)), H', ⟨Nat.le_refl _⟩, ⟨by (with_reducible repeat (first | refine blk_drewN ?_ _ | refine blk_drew ?_ | refine blk_alloc ?_ _)); exact BK186.out⟩, ⟨by repeat (first | (with_reducible first | exact HB.out | apply below_alloc | apply pw_below_drewN | apply below_drew1 | refine below_set ?_ GE186.out) | exact HB.out)⟩⟩
    case round =>
     clear H'
     (try clear c1); (try clear p2); (try clear c4); (try clear c4b0); (try clear c4b1); (try clear c6); (try clear c6b0); (try clear c6b1); (try clear c11); (try clear hcz5_0); (try clear hcz5_1); (try clear hcz5_10); (try clear hcz5_2); (try clear hcz5_3); (try clear hcz5_4); (try clear hcz5_5); (try clear hcz5_6); (try clear hcz5_7); (try clear hcz5_8); (try clear hcz5_9); (try clear hcz7_0); (try clear hcz7_1); (try clear hcz7_10); (try clear hcz7_2); (try clear hcz7_3); (try clear hcz7_4); (try clear hcz7_5); (try clear hcz7_6); (try clear hcz7_7); (try clear hcz7_8); (try clear hcz7_9); (try clear hcz9_0); (try clear hcz9_1); (try clear hcz9_10); (try clear hcz9_2); (try clear hcz9_3); (try clear hcz9_4); (try clear hcz9_5); (try clear hcz9_6); (try clear hcz9_7); (try clear hcz9_8); (try clear hcz9_9); (try clear hfz5_0); (try clear hfz5_1); (try clear hfz5_10); (try clear hfz5_2); (try clear hfz5_3); (try clear hfz5_4); (try clear hfz5_5); (try clear hfz5_6); (try clear hfz5_7); (try clear hfz5_8); (try clear hfz5_9); (try clear hfz7_0); (try clear hfz7_1); (try clear hfz7_10); (try clear hfz7_2); (try clear hfz7_3); (try clear hfz7_4); (try clear hfz7_5); (try clear hfz7_6); (try clear hfz7_7); (try clear hfz7_8); (try clear hfz7_9); (try clear hfz9_0); (try clear hfz9_1); (try clear hfz9_10); (try clear hfz9_2); (try clear hfz9_3); (try clear hfz9_4); (try clear hfz9_5); (try clear hfz9_6); (try clear hfz9_7); (try clear hfz9_8); (try clear hfz9_9); (try clear p2)
     obtain ⟨x3_2, rfl, HA, HK2, BK186, HB⟩ := hrel
     cases gk with
     | zero => exact absurd HA.out (by simp [gristmillref11_Big.l0])
     | succ k2 =>
      have H := HA.out
      clear HA
      simp only [gristmillref11_Big.l0] at H
      by_cases c12 : x3_2 < (l0_2.length : Int)
      ·rw [if_pos c12] at H
       have c12b0 : decide (x3_2 < (l0_2.length : Int)) = true := decide_eq_true c12
       clear c12
       by_cases c13 : 0 ≤ x3_2
       ·rw [if_pos c13] at H
        have c13b0 : decide (0 ≤ x3_2) = true := decide_eq_true c13
        clear c13
        replace H := Option.bind_eq_some_iff.mp H
        obtain ⟨t189, A140, H⟩ := H
        replace H : (if t189 = true then (some true) else ((gristmillref09_Big.f k2 ((rd_T47 l0_2 x3_2).f1.f0) ((rd_T47 l0_2 x3_2).f1.f1.f0) ((rd_T47 l0_2 x3_2).f1.f1.f1) ((rd_T47 l0_2 x3_2).f1.f1.f2) ((rd_T47 l0_2 x3_2).f1.f2)).bind fun t191 => (if t191 = true then (some true) else ((gristmillref09_Big.f k2 ((rd_T47 l0_2 x3_2).f2.f0) ((rd_T47 l0_2 x3_2).f2.f1.f0) ((rd_T47 l0_2 x3_2).f2.f1.f1) ((rd_T47 l0_2 x3_2).f2.f1.f2) ((rd_T47 l0_2 x3_2).f2.f2)).bind fun t193 => (if t193 = true then (some true) else (gristmillref11_Big.l0 k2 (wrap64 (x3_2 + 1)) a0_0 a0_1 l0_2 a0_3 a0_4 a0_5 a0_6 a0_7 l0_8 a0_9 a0_10)))))) = some r := H
        have A14 := Aside0.mk A140
        clear A140
        by_cases c15 : t189 = true
        ·subst c15
         have H1 : (some true) = some r := by rw [if_pos rfl] at H; exact H
         clear H
         have H := H1
         clear H1
         obtain rfl := Option.some.inj H
         have hcz16_0 : wr.cell? ⟨gb186, 0, none⟩ = some (.string a0_0) := (blk_cell BK186.out 0).trans rfl
         have hcz16_1 : wr.cell? ⟨gb186, 1, none⟩ = some (.int .i64 a0_1) := (blk_cell BK186.out 1).trans rfl
         have hcz16_2 : wr.cell? ⟨gb186, 2, none⟩ = some (.slice A0_2 l0_2.length c0_2) := (blk_cell BK186.out 2).trans rfl
         have hcz16_3 : wr.cell? ⟨gb186, 3, none⟩ = some (.int .i64 a0_3) := (blk_cell BK186.out 3).trans rfl
         have hcz16_4 : wr.cell? ⟨gb186, 4, none⟩ = some (.int .i64 a0_4) := (blk_cell BK186.out 4).trans rfl
         have hcz16_5 : wr.cell? ⟨gb186, 5, none⟩ = some (.int .u8 a0_5) := (blk_cell BK186.out 5).trans rfl
         have hcz16_6 : wr.cell? ⟨gb186, 6, none⟩ = some (.int .i64 a0_6) := (blk_cell BK186.out 6).trans rfl
         have hcz16_7 : wr.cell? ⟨gb186, 7, none⟩ = some (.string a0_7) := (blk_cell BK186.out 7).trans rfl
         have hcz16_8 : wr.cell? ⟨gb186, 8, none⟩ = some (.slice A0_8 l0_8.length c0_8) := (blk_cell BK186.out 8).trans rfl
         have hcz16_9 : wr.cell? ⟨gb186, 9, none⟩ = some (.bool a0_9) := (blk_cell BK186.out 9).trans rfl
         have hcz16_10 : wr.cell? ⟨gb186, 10, none⟩ = some (.int .i64 a0_10) := (blk_cell BK186.out 10).trans rfl
         have hfz16_0 := blk_frozen BK186.out 0
         have hfz16_1 := blk_frozen BK186.out 1
         have hfz16_2 := blk_frozen BK186.out 2
         have hfz16_3 := blk_frozen BK186.out 3
         have hfz16_4 := blk_frozen BK186.out 4
         have hfz16_5 := blk_frozen BK186.out 5
         have hfz16_6 := blk_frozen BK186.out 6
         have hfz16_7 := blk_frozen BK186.out 7
         have hfz16_8 := blk_frozen BK186.out 8
         have hfz16_9 := blk_frozen BK186.out 9
         have hfz16_10 := blk_frozen BK186.out 10
         have p188 : 0 ≤ (x3_2 : Int) := of_decide_eq_true (by first | (with_reducible assumption) | assumption)
         have q188 : x3_2 < (l0_2.length : Int) := of_decide_eq_true (by first | (with_reducible assumption) | assumption)
         obtain ⟨ad188, A188_4, c188_4, A188_9, c188_9, A188_14, c188_14, e188, hx188_0, hx188_1, hx188_2, hx188_3, hx188_4, hx188_5, hx188_6, hx188_7, hx188_8, hx188_9, hx188_10, hx188_11, hx188_12, hx188_13, hx188_14, hl188_4, hi188_4, hl188_9, hi188_9, hl188_14, hi188_14⟩ := at_T47 HR0_2.out x3_2 p188 q188
         cases e188
         replace hx188_0 := (HB.out.cell (World.block_lt_of_cell? w _ hx188_0)).trans hx188_0
         replace hx188_1 := (HB.out.cell (World.block_lt_of_cell? w _ hx188_1)).trans hx188_1
         replace hx188_2 := (HB.out.cell (World.block_lt_of_cell? w _ hx188_2)).trans hx188_2
         replace hx188_3 := (HB.out.cell (World.block_lt_of_cell? w _ hx188_3)).trans hx188_3
         replace hx188_4 := (HB.out.cell (World.block_lt_of_cell? w _ hx188_4)).trans hx188_4
         replace hx188_5 := (HB.out.cell (World.block_lt_of_cell? w _ hx188_5)).trans hx188_5
         replace hx188_6 := (HB.out.cell (World.block_lt_of_cell? w _ hx188_6)).trans hx188_6
         replace hx188_7 := (HB.out.cell (World.block_lt_of_cell? w _ hx188_7)).trans hx188_7
         replace hx188_8 := (HB.out.cell (World.block_lt_of_cell? w _ hx188_8)).trans hx188_8
         replace hx188_9 := (HB.out.cell (World.block_lt_of_cell? w _ hx188_9)).trans hx188_9
         replace hx188_10 := (HB.out.cell (World.block_lt_of_cell? w _ hx188_10)).trans hx188_10
         replace hx188_11 := (HB.out.cell (World.block_lt_of_cell? w _ hx188_11)).trans hx188_11
         replace hx188_12 := (HB.out.cell (World.block_lt_of_cell? w _ hx188_12)).trans hx188_12
         replace hx188_13 := (HB.out.cell (World.block_lt_of_cell? w _ hx188_13)).trans hx188_13
         replace hx188_14 := (HB.out.cell (World.block_lt_of_cell? w _ hx188_14)).trans hx188_14
         have HR188_4 := Aside0.mk hi188_4
         have HC188_4 := Aside0.mk hl188_4
         clear hi188_4 hl188_4
         have HR188_9 := Aside0.mk hi188_9
         have HC188_9 := Aside0.mk hl188_9
         clear hi188_9 hl188_9
         have HR188_14 := Aside0.mk hi188_14
         have HC188_14 := Aside0.mk hl188_14
         clear hi188_14 hl188_14
         replace p188 := eq_true p188
         replace q188 := eq_true q188
         go_wp2_with (first | ((with_reducible refine gate_callee (f := 6) rfl ?_); refine goesL_ (some 32) rfl rfl Try.func6 (by kernel_rfl) rfl #[.agg #[.int .i64 ((rd_T47 l0_2 x3_2).f0.f0), .int .u8 ((rd_T47 l0_2 x3_2).f0.f1.f0), .int .i64 ((rd_T47 l0_2 x3_2).f0.f1.f1), .string ((rd_T47 l0_2 x3_2).f0.f1.f2), .slice A188_4 ((rd_T47 l0_2 x3_2).f0.f2).length c188_4]] rfl (by (try simp only [List.map_toArray, List.map_cons, List.map_nil]); first | done | rfl | (simp only [List.length_drop, List.length_take]; rfl)) ?_; (with_reducible refine (gristmillref09_Big.calls k2 ((rd_T47 l0_2 x3_2).f0.f0) ((rd_T47 l0_2 x3_2).f0.f1.f0) ((rd_T47 l0_2 x3_2).f0.f1.f1) ((rd_T47 l0_2 x3_2).f0.f1.f2) _ _ ((rd_T47 l0_2 x3_2).f0.f2) true _ ?side1 ?side2 A14.out).mono ?_); (case side1 => repeat (first | exact (Kd.C_below HR188_4.out HB.out) | (with_reducible refine Kd.C_alloc ?_ _) | (with_reducible refine Kd.C_drewN ?_ _) | (with_reducible refine Kd.C_drew ?_))); (case side2 => exact HC188_4.out); rintro e w17 ⟨rfl, hb⟩; refine ⟨_, rfl, ?_⟩; have n0_ := Aside0.mk (blk_below (g := gb186) (o := .cells #[.string a0_0, .int .i64 a0_1, .slice (some ad188) l0_2.length c0_2, .int .i64 a0_3, .int .i64 a0_4, .int .u8 a0_5, .int .i64 a0_6, .string a0_7, .slice A0_8 l0_8.length c0_8, .bool a0_9, .int .i64 a0_10] 38 (0, 0)) (by (with_reducible repeat (first | refine blk_drewN ?_ _ | refine blk_drew ?_ | refine blk_alloc ?_ _)); exact BK186.out) hb); have n1_ := Aside0.mk (below_step (by repeat (first | (with_reducible first | exact HB.out | apply below_alloc | apply pw_below_drewN | apply below_drew1 | refine below_set ?_ GE186.out) | exact HB.out)) hb); clear BK186; clear HB; have BK186 := n0_; have HB := n1_; clear n0_ n1_; (try clear hb); (try clear hb2); (try clear hk); (try clear hi)))
         go_ret
         exact ⟨by first | rfl | (simp [errW_none, errW_some] <;> rfl) | (simp [*, errW_none, errW_some] <;> rfl), by repeat (first | (with_reducible first | exact HB.out | apply below_alloc | apply pw_below_drewN | apply below_drew1 | refine below_set ?_ GE186.out) | exact HB.out)⟩
        ·replace c15 := Bool.eq_false_iff.mpr c15
         subst c15
         have H1 : ((gristmillref09_Big.f k2 ((rd_T47 l0_2 x3_2).f1.f0) ((rd_T47 l0_2 x3_2).f1.f1.f0) ((rd_T47 l0_2 x3_2).f1.f1.f1) ((rd_T47 l0_2 x3_2).f1.f1.f2) ((rd_T47 l0_2 x3_2).f1.f2)).bind fun t191 => (if t191 = true then (some true) else ((gristmillref09_Big.f k2 ((rd_T47 l0_2 x3_2).f2.f0) ((rd_T47 l0_2 x3_2).f2.f1.f0) ((rd_T47 l0_2 x3_2).f2.f1.f1) ((rd_T47 l0_2 x3_2).f2.f1.f2) ((rd_T47 l0_2 x3_2).f2.f2)).bind fun t193 => (if t193 = true then (some true) else (gristmillref11_Big.l0 k2 (wrap64 (x3_2 + 1)) a0_0 a0_1 l0_2 a0_3 a0_4 a0_5 a0_6 a0_7 l0_8 a0_9 a0_10))))) = some r := by rw [if_neg (show ¬ (false = true) by decide)] at H; exact H
         clear H
         have H := H1
         clear H1
         replace H := Option.bind_eq_some_iff.mp H
         obtain ⟨t191, A180, H⟩ := H
         replace H : (if t191 = true then (some true) else ((gristmillref09_Big.f k2 ((rd_T47 l0_2 x3_2).f2.f0) ((rd_T47 l0_2 x3_2).f2.f1.f0) ((rd_T47 l0_2 x3_2).f2.f1.f1) ((rd_T47 l0_2 x3_2).f2.f1.f2) ((rd_T47 l0_2 x3_2).f2.f2)).bind fun t193 => (if t193 = true then (some true) else (gristmillref11_Big.l0 k2 (wrap64 (x3_2 + 1)) a0_0 a0_1 l0_2 a0_3 a0_4 a0_5 a0_6 a0_7 l0_8 a0_9 a0_10)))) = some r := H
         have A18 := Aside0.mk A180
         clear A180
         by_cases c19 : t191 = true
         ·subst c19
          have H1 : (some true) = some r := by rw [if_pos rfl] at H; exact H
          clear H
          have H := H1
          clear H1
          obtain rfl := Option.some.inj H
          have hcz20_0 : wr.cell? ⟨gb186, 0, none⟩ = some (.string a0_0) := (blk_cell BK186.out 0).trans rfl
          have hcz20_1 : wr.cell? ⟨gb186, 1, none⟩ = some (.int .i64 a0_1) := (blk_cell BK186.out 1).trans rfl
          have hcz20_2 : wr.cell? ⟨gb186, 2, none⟩ = some (.slice A0_2 l0_2.length c0_2) := (blk_cell BK186.out 2).trans rfl
          have hcz20_3 : wr.cell? ⟨gb186, 3, none⟩ = some (.int .i64 a0_3) := (blk_cell BK186.out 3).trans rfl
          have hcz20_4 : wr.cell? ⟨gb186, 4, none⟩ = some (.int .i64 a0_4) := (blk_cell BK186.out 4).trans rfl
          have hcz20_5 : wr.cell? ⟨gb186, 5, none⟩ = some (.int .u8 a0_5) := (blk_cell BK186.out 5).trans rfl
          have hcz20_6 : wr.cell? ⟨gb186, 6, none⟩ = some (.int .i64 a0_6) := (blk_cell BK186.out 6).trans rfl
          have hcz20_7 : wr.cell? ⟨gb186, 7, none⟩ = some (.string a0_7) := (blk_cell BK186.out 7).trans rfl
          have hcz20_8 : wr.cell? ⟨gb186, 8, none⟩ = some (.slice A0_8 l0_8.length c0_8) := (blk_cell BK186.out 8).trans rfl
          have hcz20_9 : wr.cell? ⟨gb186, 9, none⟩ = some (.bool a0_9) := (blk_cell BK186.out 9).trans rfl
          have hcz20_10 : wr.cell? ⟨gb186, 10, none⟩ = some (.int .i64 a0_10) := (blk_cell BK186.out 10).trans rfl
          have hfz20_0 := blk_frozen BK186.out 0
          have hfz20_1 := blk_frozen BK186.out 1
          have hfz20_2 := blk_frozen BK186.out 2
          have hfz20_3 := blk_frozen BK186.out 3
          have hfz20_4 := blk_frozen BK186.out 4
          have hfz20_5 := blk_frozen BK186.out 5
          have hfz20_6 := blk_frozen BK186.out 6
          have hfz20_7 := blk_frozen BK186.out 7
          have hfz20_8 := blk_frozen BK186.out 8
          have hfz20_9 := blk_frozen BK186.out 9
          have hfz20_10 := blk_frozen BK186.out 10
          have p188 : 0 ≤ (x3_2 : Int) := of_decide_eq_true (by first | (with_reducible assumption) | assumption)
          have q188 : x3_2 < (l0_2.length : Int) := of_decide_eq_true (by first | (with_reducible assumption) | assumption)
          obtain ⟨ad188, A188_4, c188_4, A188_9, c188_9, A188_14, c188_14, e188, hx188_0, hx188_1, hx188_2, hx188_3, hx188_4, hx188_5, hx188_6, hx188_7, hx188_8, hx188_9, hx188_10, hx188_11, hx188_12, hx188_13, hx188_14, hl188_4, hi188_4, hl188_9, hi188_9, hl188_14, hi188_14⟩ := at_T47 HR0_2.out x3_2 p188 q188
          cases e188
          replace hx188_0 := (HB.out.cell (World.block_lt_of_cell? w _ hx188_0)).trans hx188_0
          replace hx188_1 := (HB.out.cell (World.block_lt_of_cell? w _ hx188_1)).trans hx188_1
          replace hx188_2 := (HB.out.cell (World.block_lt_of_cell? w _ hx188_2)).trans hx188_2
          replace hx188_3 := (HB.out.cell (World.block_lt_of_cell? w _ hx188_3)).trans hx188_3
          replace hx188_4 := (HB.out.cell (World.block_lt_of_cell? w _ hx188_4)).trans hx188_4
          replace hx188_5 := (HB.out.cell (World.block_lt_of_cell? w _ hx188_5)).trans hx188_5
          replace hx188_6 := (HB.out.cell (World.block_lt_of_cell? w _ hx188_6)).trans hx188_6
          replace hx188_7 := (HB.out.cell (World.block_lt_of_cell? w _ hx188_7)).trans hx188_7
          replace hx188_8 := (HB.out.cell (World.block_lt_of_cell? w _ hx188_8)).trans hx188_8
          replace hx188_9 := (HB.out.cell (World.block_lt_of_cell? w _ hx188_9)).trans hx188_9
          replace hx188_10 := (HB.out.cell (World.block_lt_of_cell? w _ hx188_10)).trans hx188_10
          replace hx188_11 := (HB.out.cell (World.block_lt_of_cell? w _ hx188_11)).trans hx188_11
          replace hx188_12 := (HB.out.cell (World.block_lt_of_cell? w _ hx188_12)).trans hx188_12
          replace hx188_13 := (HB.out.cell (World.block_lt_of_cell? w _ hx188_13)).trans hx188_13
          replace hx188_14 := (HB.out.cell (World.block_lt_of_cell? w _ hx188_14)).trans hx188_14
          have HR188_4 := Aside0.mk hi188_4
          have HC188_4 := Aside0.mk hl188_4
          clear hi188_4 hl188_4
          have HR188_9 := Aside0.mk hi188_9
          have HC188_9 := Aside0.mk hl188_9
          clear hi188_9 hl188_9
          have HR188_14 := Aside0.mk hi188_14
          have HC188_14 := Aside0.mk hl188_14
          clear hi188_14 hl188_14
          replace p188 := eq_true p188
          replace q188 := eq_true q188
          go_wp2_with (first | ((with_reducible refine gate_callee (f := 6) rfl ?_); refine goesL_ (some 32) rfl rfl Try.func6 (by kernel_rfl) rfl #[.agg #[.int .i64 ((rd_T47 l0_2 x3_2).f0.f0), .int .u8 ((rd_T47 l0_2 x3_2).f0.f1.f0), .int .i64 ((rd_T47 l0_2 x3_2).f0.f1.f1), .string ((rd_T47 l0_2 x3_2).f0.f1.f2), .slice A188_4 ((rd_T47 l0_2 x3_2).f0.f2).length c188_4]] rfl (by (try simp only [List.map_toArray, List.map_cons, List.map_nil]); first | done | rfl | (simp only [List.length_drop, List.length_take]; rfl)) ?_; (with_reducible refine (gristmillref09_Big.calls k2 ((rd_T47 l0_2 x3_2).f0.f0) ((rd_T47 l0_2 x3_2).f0.f1.f0) ((rd_T47 l0_2 x3_2).f0.f1.f1) ((rd_T47 l0_2 x3_2).f0.f1.f2) _ _ ((rd_T47 l0_2 x3_2).f0.f2) false _ ?side1 ?side2 A14.out).mono ?_); (case side1 => repeat (first | exact (Kd.C_below HR188_4.out HB.out) | (with_reducible refine Kd.C_alloc ?_ _) | (with_reducible refine Kd.C_drewN ?_ _) | (with_reducible refine Kd.C_drew ?_))); (case side2 => exact HC188_4.out); rintro e w21 ⟨rfl, hb⟩; refine ⟨_, rfl, ?_⟩; have n0_ := Aside0.mk (blk_below (g := gb186) (o := .cells #[.string a0_0, .int .i64 a0_1, .slice (some ad188) l0_2.length c0_2, .int .i64 a0_3, .int .i64 a0_4, .int .u8 a0_5, .int .i64 a0_6, .string a0_7, .slice A0_8 l0_8.length c0_8, .bool a0_9, .int .i64 a0_10] 38 (0, 0)) (by (with_reducible repeat (first | refine blk_drewN ?_ _ | refine blk_drew ?_ | refine blk_alloc ?_ _)); exact BK186.out) hb); have n1_ := Aside0.mk (below_step (by repeat (first | (with_reducible first | exact HB.out | apply below_alloc | apply pw_below_drewN | apply below_drew1 | refine below_set ?_ GE186.out) | exact HB.out)) hb); clear BK186; clear HB; have BK186 := n0_; have HB := n1_; clear n0_ n1_; (try clear hb); (try clear hb2); (try clear hk); (try clear hi); have hcz22_0 : w21.cell? ⟨gb186, 0, none⟩ = some (.string a0_0) := (blk_cell BK186.out 0).trans rfl; have hcz22_1 : w21.cell? ⟨gb186, 1, none⟩ = some (.int .i64 a0_1) := (blk_cell BK186.out 1).trans rfl; have hcz22_2 : w21.cell? ⟨gb186, 2, none⟩ = some (.slice (some ad188) l0_2.length c0_2) := (blk_cell BK186.out 2).trans rfl; have hcz22_3 : w21.cell? ⟨gb186, 3, none⟩ = some (.int .i64 a0_3) := (blk_cell BK186.out 3).trans rfl; have hcz22_4 : w21.cell? ⟨gb186, 4, none⟩ = some (.int .i64 a0_4) := (blk_cell BK186.out 4).trans rfl; have hcz22_5 : w21.cell? ⟨gb186, 5, none⟩ = some (.int .u8 a0_5) := (blk_cell BK186.out 5).trans rfl; have hcz22_6 : w21.cell? ⟨gb186, 6, none⟩ = some (.int .i64 a0_6) := (blk_cell BK186.out 6).trans rfl; have hcz22_7 : w21.cell? ⟨gb186, 7, none⟩ = some (.string a0_7) := (blk_cell BK186.out 7).trans rfl; have hcz22_8 : w21.cell? ⟨gb186, 8, none⟩ = some (.slice A0_8 l0_8.length c0_8) := (blk_cell BK186.out 8).trans rfl; have hcz22_9 : w21.cell? ⟨gb186, 9, none⟩ = some (.bool a0_9) := (blk_cell BK186.out 9).trans rfl; have hcz22_10 : w21.cell? ⟨gb186, 10, none⟩ = some (.int .i64 a0_10) := (blk_cell BK186.out 10).trans rfl; have hfz22_0 := blk_frozen BK186.out 0; have hfz22_1 := blk_frozen BK186.out 1; have hfz22_2 := blk_frozen BK186.out 2; have hfz22_3 := blk_frozen BK186.out 3; have hfz22_4 := blk_frozen BK186.out 4; have hfz22_5 := blk_frozen BK186.out 5; have hfz22_6 := blk_frozen BK186.out 6; have hfz22_7 := blk_frozen BK186.out 7; have hfz22_8 := blk_frozen BK186.out 8; have hfz22_9 := blk_frozen BK186.out 9; have hfz22_10 := blk_frozen BK186.out 10; have p190 : 0 ≤ (x3_2 : Int) := of_decide_eq_true (by first | (with_reducible assumption) | assumption); have q190 : x3_2 < (l0_2.length : Int) := of_decide_eq_true (by first | (with_reducible assumption) | assumption); obtain ⟨ad190, A190_4, c190_4, A190_9, c190_9, A190_14, c190_14, e190, hx190_0, hx190_1, hx190_2, hx190_3, hx190_4, hx190_5, hx190_6, hx190_7, hx190_8, hx190_9, hx190_10, hx190_11, hx190_12, hx190_13, hx190_14, hl190_4, hi190_4, hl190_9, hi190_9, hl190_14, hi190_14⟩ := at_T47 HR0_2.out x3_2 p190 q190; obtain rfl : ad188 = ad190 := (by injection e190); replace hx190_0 := (HB.out.cell (World.block_lt_of_cell? w _ hx190_0)).trans hx190_0; replace hx190_1 := (HB.out.cell (World.block_lt_of_cell? w _ hx190_1)).trans hx190_1; replace hx190_2 := (HB.out.cell (World.block_lt_of_cell? w _ hx190_2)).trans hx190_2; replace hx190_3 := (HB.out.cell (World.block_lt_of_cell? w _ hx190_3)).trans hx190_3; replace hx190_4 := (HB.out.cell (World.block_lt_of_cell? w _ hx190_4)).trans hx190_4; replace hx190_5 := (HB.out.cell (World.block_lt_of_cell? w _ hx190_5)).trans hx190_5; replace hx190_6 := (HB.out.cell (World.block_lt_of_cell? w _ hx190_6)).trans hx190_6; replace hx190_7 := (HB.out.cell (World.block_lt_of_cell? w _ hx190_7)).trans hx190_7; replace hx190_8 := (HB.out.cell (World.block_lt_of_cell? w _ hx190_8)).trans hx190_8; replace hx190_9 := (HB.out.cell (World.block_lt_of_cell? w _ hx190_9)).trans hx190_9; replace hx190_10 := (HB.out.cell (World.block_lt_of_cell? w _ hx190_10)).trans hx190_10; replace hx190_11 := (HB.out.cell (World.block_lt_of_cell? w _ hx190_11)).trans hx190_11; replace hx190_12 := (HB.out.cell (World.block_lt_of_cell? w _ hx190_12)).trans hx190_12; replace hx190_13 := (HB.out.cell (World.block_lt_of_cell? w _ hx190_13)).trans hx190_13; replace hx190_14 := (HB.out.cell (World.block_lt_of_cell? w _ hx190_14)).trans hx190_14; have HR190_4 := Aside0.mk hi190_4; have HC190_4 := Aside0.mk hl190_4; clear hi190_4 hl190_4; have HR190_9 := Aside0.mk hi190_9; have HC190_9 := Aside0.mk hl190_9; clear hi190_9 hl190_9; have HR190_14 := Aside0.mk hi190_14; have HC190_14 := Aside0.mk hl190_14; clear hi190_14 hl190_14; replace p190 := eq_true p190; replace q190 := eq_true q190) | (go_at_call 6; (with_reducible refine (gristmillref09_Big.calls k2 ((rd_T47 l0_2 x3_2).f1.f0) ((rd_T47 l0_2 x3_2).f1.f1.f0) ((rd_T47 l0_2 x3_2).f1.f1.f1) ((rd_T47 l0_2 x3_2).f1.f1.f2) _ _ ((rd_T47 l0_2 x3_2).f1.f2) true _ ?side1 ?side2 A18.out).mono ?_); (case side1 => repeat (first | exact (Kd.C_below HR190_9.out HB.out) | (with_reducible refine Kd.C_alloc ?_ _) | (with_reducible refine Kd.C_drewN ?_ _) | (with_reducible refine Kd.C_drew ?_))); (case side2 => exact HC190_9.out); rintro e w23 ⟨rfl, hb⟩; have n0_ := Aside0.mk (blk_below (g := gb186) (o := .cells #[.string a0_0, .int .i64 a0_1, .slice (some ad188) l0_2.length c0_2, .int .i64 a0_3, .int .i64 a0_4, .int .u8 a0_5, .int .i64 a0_6, .string a0_7, .slice A0_8 l0_8.length c0_8, .bool a0_9, .int .i64 a0_10] 38 (0, 0)) (by (with_reducible repeat (first | refine blk_drewN ?_ _ | refine blk_drew ?_ | refine blk_alloc ?_ _)); exact BK186.out) hb); have n1_ := Aside0.mk (below_step (by repeat (first | (with_reducible first | exact HB.out | apply below_alloc | apply pw_below_drewN | apply below_drew1 | refine below_set ?_ GE186.out) | exact HB.out)) hb); clear BK186; clear HB; have BK186 := n0_; have HB := n1_; clear n0_ n1_; (try clear hb); (try clear hb2); (try clear hk); (try clear hi)))
          go_ret
          exact ⟨by first | rfl | (simp [errW_none, errW_some] <;> rfl) | (simp [*, errW_none, errW_some] <;> rfl), by repeat (first | (with_reducible first | exact HB.out | apply below_alloc | apply pw_below_drewN | apply below_drew1 | refine below_set ?_ GE186.out) | exact HB.out)⟩
         ·replace c19 := Bool.eq_false_iff.mpr c19
          subst c19
          have H1 : ((gristmillref09_Big.f k2 ((rd_T47 l0_2 x3_2).f2.f0) ((rd_T47 l0_2 x3_2).f2.f1.f0) ((rd_T47 l0_2 x3_2).f2.f1.f1) ((rd_T47 l0_2 x3_2).f2.f1.f2) ((rd_T47 l0_2 x3_2).f2.f2)).bind fun t193 => (if t193 = true then (some true) else (gristmillref11_Big.l0 k2 (wrap64 (x3_2 + 1)) a0_0 a0_1 l0_2 a0_3 a0_4 a0_5 a0_6 a0_7 l0_8 a0_9 a0_10))) = some r := by rw [if_neg (show ¬ (false = true) by decide)] at H; exact H
          clear H
          have H := H1
          clear H1
          replace H := Option.bind_eq_some_iff.mp H
          obtain ⟨t193, A240, H⟩ := H
          replace H : (if t193 = true then (some true) else (gristmillref11_Big.l0 k2 (wrap64 (x3_2 + 1)) a0_0 a0_1 l0_2 a0_3 a0_4 a0_5 a0_6 a0_7 l0_8 a0_9 a0_10)) = some r := H
          have A24 := Aside0.mk A240
          clear A240
          by_cases c25 : t193 = true
          ·subst c25
           have H1 : (some true) = some r := by rw [if_pos rfl] at H; exact H
           clear H
           have H := H1
           clear H1
           obtain rfl := Option.some.inj H
           have hcz26_0 : wr.cell? ⟨gb186, 0, none⟩ = some (.string a0_0) := (blk_cell BK186.out 0).trans rfl
           have hcz26_1 : wr.cell? ⟨gb186, 1, none⟩ = some (.int .i64 a0_1) := (blk_cell BK186.out 1).trans rfl
           have hcz26_2 : wr.cell? ⟨gb186, 2, none⟩ = some (.slice A0_2 l0_2.length c0_2) := (blk_cell BK186.out 2).trans rfl
           have hcz26_3 : wr.cell? ⟨gb186, 3, none⟩ = some (.int .i64 a0_3) := (blk_cell BK186.out 3).trans rfl
           have hcz26_4 : wr.cell? ⟨gb186, 4, none⟩ = some (.int .i64 a0_4) := (blk_cell BK186.out 4).trans rfl
           have hcz26_5 : wr.cell? ⟨gb186, 5, none⟩ = some (.int .u8 a0_5) := (blk_cell BK186.out 5).trans rfl
           have hcz26_6 : wr.cell? ⟨gb186, 6, none⟩ = some (.int .i64 a0_6) := (blk_cell BK186.out 6).trans rfl
           have hcz26_7 : wr.cell? ⟨gb186, 7, none⟩ = some (.string a0_7) := (blk_cell BK186.out 7).trans rfl
           have hcz26_8 : wr.cell? ⟨gb186, 8, none⟩ = some (.slice A0_8 l0_8.length c0_8) := (blk_cell BK186.out 8).trans rfl
           have hcz26_9 : wr.cell? ⟨gb186, 9, none⟩ = some (.bool a0_9) := (blk_cell BK186.out 9).trans rfl
           have hcz26_10 : wr.cell? ⟨gb186, 10, none⟩ = some (.int .i64 a0_10) := (blk_cell BK186.out 10).trans rfl
           have hfz26_0 := blk_frozen BK186.out 0
           have hfz26_1 := blk_frozen BK186.out 1
           have hfz26_2 := blk_frozen BK186.out 2
           have hfz26_3 := blk_frozen BK186.out 3
           have hfz26_4 := blk_frozen BK186.out 4
           have hfz26_5 := blk_frozen BK186.out 5
           have hfz26_6 := blk_frozen BK186.out 6
           have hfz26_7 := blk_frozen BK186.out 7
           have hfz26_8 := blk_frozen BK186.out 8
           have hfz26_9 := blk_frozen BK186.out 9
           have hfz26_10 := blk_frozen BK186.out 10
           have p188 : 0 ≤ (x3_2 : Int) := of_decide_eq_true (by first | (with_reducible assumption) | assumption)
           have q188 : x3_2 < (l0_2.length : Int) := of_decide_eq_true (by first | (with_reducible assumption) | assumption)
           obtain ⟨ad188, A188_4, c188_4, A188_9, c188_9, A188_14, c188_14, e188, hx188_0, hx188_1, hx188_2, hx188_3, hx188_4, hx188_5, hx188_6, hx188_7, hx188_8, hx188_9, hx188_10, hx188_11, hx188_12, hx188_13, hx188_14, hl188_4, hi188_4, hl188_9, hi188_9, hl188_14, hi188_14⟩ := at_T47 HR0_2.out x3_2 p188 q188
           cases e188
           replace hx188_0 := (HB.out.cell (World.block_lt_of_cell? w _ hx188_0)).trans hx188_0
           replace hx188_1 := (HB.out.cell (World.block_lt_of_cell? w _ hx188_1)).trans hx188_1
           replace hx188_2 := (HB.out.cell (World.block_lt_of_cell? w _ hx188_2)).trans hx188_2
           replace hx188_3 := (HB.out.cell (World.block_lt_of_cell? w _ hx188_3)).trans hx188_3
           replace hx188_4 := (HB.out.cell (World.block_lt_of_cell? w _ hx188_4)).trans hx188_4
           replace hx188_5 := (HB.out.cell (World.block_lt_of_cell? w _ hx188_5)).trans hx188_5
           replace hx188_6 := (HB.out.cell (World.block_lt_of_cell? w _ hx188_6)).trans hx188_6
           replace hx188_7 := (HB.out.cell (World.block_lt_of_cell? w _ hx188_7)).trans hx188_7
           replace hx188_8 := (HB.out.cell (World.block_lt_of_cell? w _ hx188_8)).trans hx188_8
           replace hx188_9 := (HB.out.cell (World.block_lt_of_cell? w _ hx188_9)).trans hx188_9
           replace hx188_10 := (HB.out.cell (World.block_lt_of_cell? w _ hx188_10)).trans hx188_10
           replace hx188_11 := (HB.out.cell (World.block_lt_of_cell? w _ hx188_11)).trans hx188_11
           replace hx188_12 := (HB.out.cell (World.block_lt_of_cell? w _ hx188_12)).trans hx188_12
           replace hx188_13 := (HB.out.cell (World.block_lt_of_cell? w _ hx188_13)).trans hx188_13
           replace hx188_14 := (HB.out.cell (World.block_lt_of_cell? w _ hx188_14)).trans hx188_14
           have HR188_4 := Aside0.mk hi188_4
           have HC188_4 := Aside0.mk hl188_4
           clear hi188_4 hl188_4
           have HR188_9 := Aside0.mk hi188_9
           have HC188_9 := Aside0.mk hl188_9
           clear hi188_9 hl188_9
           have HR188_14 := Aside0.mk hi188_14
           have HC188_14 := Aside0.mk hl188_14
           clear hi188_14 hl188_14
           replace p188 := eq_true p188
           replace q188 := eq_true q188
           go_wp2_with (first | ((with_reducible refine gate_callee (f := 6) rfl ?_); refine goesL_ (some 32) rfl rfl Try.func6 (by kernel_rfl) rfl #[.agg #[.int .i64 ((rd_T47 l0_2 x3_2).f0.f0), .int .u8 ((rd_T47 l0_2 x3_2).f0.f1.f0), .int .i64 ((rd_T47 l0_2 x3_2).f0.f1.f1), .string ((rd_T47 l0_2 x3_2).f0.f1.f2), .slice A188_4 ((rd_T47 l0_2 x3_2).f0.f2).length c188_4]] rfl (by (try simp only [List.map_toArray, List.map_cons, List.map_nil]); first | done | rfl | (simp only [List.length_drop, List.length_take]; rfl)) ?_; (with_reducible refine (gristmillref09_Big.calls k2 ((rd_T47 l0_2 x3_2).f0.f0) ((rd_T47 l0_2 x3_2).f0.f1.f0) ((rd_T47 l0_2 x3_2).f0.f1.f1) ((rd_T47 l0_2 x3_2).f0.f1.f2) _ _ ((rd_T47 l0_2 x3_2).f0.f2) false _ ?side1 ?side2 A14.out).mono ?_); (case side1 => repeat (first | exact (Kd.C_below HR188_4.out HB.out) | (with_reducible refine Kd.C_alloc ?_ _) | (with_reducible refine Kd.C_drewN ?_ _) | (with_reducible refine Kd.C_drew ?_))); (case side2 => exact HC188_4.out); rintro e w27 ⟨rfl, hb⟩; refine ⟨_, rfl, ?_⟩; have n0_ := Aside0.mk (blk_below (g := gb186) (o := .cells #[.string a0_0, .int .i64 a0_1, .slice (some ad188) l0_2.length c0_2, .int .i64 a0_3, .int .i64 a0_4, .int .u8 a0_5, .int .i64 a0_6, .string a0_7, .slice A0_8 l0_8.length c0_8, .bool a0_9, .int .i64 a0_10] 38 (0, 0)) (by (with_reducible repeat (first | refine blk_drewN ?_ _ | refine blk_drew ?_ | refine blk_alloc ?_ _)); exact BK186.out) hb); have n1_ := Aside0.mk (below_step (by repeat (first | (with_reducible first | exact HB.out | apply below_alloc | apply pw_below_drewN | apply below_drew1 | refine below_set ?_ GE186.out) | exact HB.out)) hb); clear BK186; clear HB; have BK186 := n0_; have HB := n1_; clear n0_ n1_; (try clear hb); (try clear hb2); (try clear hk); (try clear hi); have hcz28_0 : w27.cell? ⟨gb186, 0, none⟩ = some (.string a0_0) := (blk_cell BK186.out 0).trans rfl; have hcz28_1 : w27.cell? ⟨gb186, 1, none⟩ = some (.int .i64 a0_1) := (blk_cell BK186.out 1).trans rfl; have hcz28_2 : w27.cell? ⟨gb186, 2, none⟩ = some (.slice (some ad188) l0_2.length c0_2) := (blk_cell BK186.out 2).trans rfl; have hcz28_3 : w27.cell? ⟨gb186, 3, none⟩ = some (.int .i64 a0_3) := (blk_cell BK186.out 3).trans rfl; have hcz28_4 : w27.cell? ⟨gb186, 4, none⟩ = some (.int .i64 a0_4) := (blk_cell BK186.out 4).trans rfl; have hcz28_5 : w27.cell? ⟨gb186, 5, none⟩ = some (.int .u8 a0_5) := (blk_cell BK186.out 5).trans rfl; have hcz28_6 : w27.cell? ⟨gb186, 6, none⟩ = some (.int .i64 a0_6) := (blk_cell BK186.out 6).trans rfl; have hcz28_7 : w27.cell? ⟨gb186, 7, none⟩ = some (.string a0_7) := (blk_cell BK186.out 7).trans rfl; have hcz28_8 : w27.cell? ⟨gb186, 8, none⟩ = some (.slice A0_8 l0_8.length c0_8) := (blk_cell BK186.out 8).trans rfl; have hcz28_9 : w27.cell? ⟨gb186, 9, none⟩ = some (.bool a0_9) := (blk_cell BK186.out 9).trans rfl; have hcz28_10 : w27.cell? ⟨gb186, 10, none⟩ = some (.int .i64 a0_10) := (blk_cell BK186.out 10).trans rfl; have hfz28_0 := blk_frozen BK186.out 0; have hfz28_1 := blk_frozen BK186.out 1; have hfz28_2 := blk_frozen BK186.out 2; have hfz28_3 := blk_frozen BK186.out 3; have hfz28_4 := blk_frozen BK186.out 4; have hfz28_5 := blk_frozen BK186.out 5; have hfz28_6 := blk_frozen BK186.out 6; have hfz28_7 := blk_frozen BK186.out 7; have hfz28_8 := blk_frozen BK186.out 8; have hfz28_9 := blk_frozen BK186.out 9; have hfz28_10 := blk_frozen BK186.out 10; have p190 : 0 ≤ (x3_2 : Int) := of_decide_eq_true (by first | (with_reducible assumption) | assumption); have q190 : x3_2 < (l0_2.length : Int) := of_decide_eq_true (by first | (with_reducible assumption) | assumption); obtain ⟨ad190, A190_4, c190_4, A190_9, c190_9, A190_14, c190_14, e190, hx190_0, hx190_1, hx190_2, hx190_3, hx190_4, hx190_5, hx190_6, hx190_7, hx190_8, hx190_9, hx190_10, hx190_11, hx190_12, hx190_13, hx190_14, hl190_4, hi190_4, hl190_9, hi190_9, hl190_14, hi190_14⟩ := at_T47 HR0_2.out x3_2 p190 q190; obtain rfl : ad188 = ad190 := (by injection e190); replace hx190_0 := (HB.out.cell (World.block_lt_of_cell? w _ hx190_0)).trans hx190_0; replace hx190_1 := (HB.out.cell (World.block_lt_of_cell? w _ hx190_1)).trans hx190_1; replace hx190_2 := (HB.out.cell (World.block_lt_of_cell? w _ hx190_2)).trans hx190_2; replace hx190_3 := (HB.out.cell (World.block_lt_of_cell? w _ hx190_3)).trans hx190_3; replace hx190_4 := (HB.out.cell (World.block_lt_of_cell? w _ hx190_4)).trans hx190_4; replace hx190_5 := (HB.out.cell (World.block_lt_of_cell? w _ hx190_5)).trans hx190_5; replace hx190_6 := (HB.out.cell (World.block_lt_of_cell? w _ hx190_6)).trans hx190_6; replace hx190_7 := (HB.out.cell (World.block_lt_of_cell? w _ hx190_7)).trans hx190_7; replace hx190_8 := (HB.out.cell (World.block_lt_of_cell? w _ hx190_8)).trans hx190_8; replace hx190_9 := (HB.out.cell (World.block_lt_of_cell? w _ hx190_9)).trans hx190_9; replace hx190_10 := (HB.out.cell (World.block_lt_of_cell? w _ hx190_10)).trans hx190_10; replace hx190_11 := (HB.out.cell (World.block_lt_of_cell? w _ hx190_11)).trans hx190_11; replace hx190_12 := (HB.out.cell (World.block_lt_of_cell? w _ hx190_12)).trans hx190_12; replace hx190_13 := (HB.out.cell (World.block_lt_of_cell? w _ hx190_13)).trans hx190_13; replace hx190_14 := (HB.out.cell (World.block_lt_of_cell? w _ hx190_14)).trans hx190_14; have HR190_4 := Aside0.mk hi190_4; have HC190_4 := Aside0.mk hl190_4; clear hi190_4 hl190_4; have HR190_9 := Aside0.mk hi190_9; have HC190_9 := Aside0.mk hl190_9; clear hi190_9 hl190_9; have HR190_14 := Aside0.mk hi190_14; have HC190_14 := Aside0.mk hl190_14; clear hi190_14 hl190_14; replace p190 := eq_true p190; replace q190 := eq_true q190) | (go_at_call 6; (with_reducible refine (gristmillref09_Big.calls k2 ((rd_T47 l0_2 x3_2).f1.f0) ((rd_T47 l0_2 x3_2).f1.f1.f0) ((rd_T47 l0_2 x3_2).f1.f1.f1) ((rd_T47 l0_2 x3_2).f1.f1.f2) _ _ ((rd_T47 l0_2 x3_2).f1.f2) false _ ?side1 ?side2 A18.out).mono ?_); (case side1 => repeat (first | exact (Kd.C_below HR190_9.out HB.out) | (with_reducible refine Kd.C_alloc ?_ _) | (with_reducible refine Kd.C_drewN ?_ _) | (with_reducible refine Kd.C_drew ?_))); (case side2 => exact HC190_9.out); rintro e w29 ⟨rfl, hb⟩; have n0_ := Aside0.mk (blk_below (g := gb186) (o := .cells #[.string a0_0, .int .i64 a0_1, .slice (some ad188) l0_2.length c0_2, .int .i64 a0_3, .int .i64 a0_4, .int .u8 a0_5, .int .i64 a0_6, .string a0_7, .slice A0_8 l0_8.length c0_8, .bool a0_9, .int .i64 a0_10] 38 (0, 0)) (by (with_reducible repeat (first | refine blk_drewN ?_ _ | refine blk_drew ?_ | refine blk_alloc ?_ _)); exact BK186.out) hb); have n1_ := Aside0.mk (below_step (by repeat (first | (with_reducible first | exact HB.out | apply below_alloc | apply pw_below_drewN | apply below_drew1 | refine below_set ?_ GE186.out) | exact HB.out)) hb); clear BK186; clear HB; have BK186 := n0_; have HB := n1_; clear n0_ n1_; (try clear hb); (try clear hb2); (try clear hk); (try clear hi); have hcz30_0 : w29.cell? ⟨gb186, 0, none⟩ = some (.string a0_0) := (blk_cell BK186.out 0).trans rfl; have hcz30_1 : w29.cell? ⟨gb186, 1, none⟩ = some (.int .i64 a0_1) := (blk_cell BK186.out 1).trans rfl; have hcz30_2 : w29.cell? ⟨gb186, 2, none⟩ = some (.slice (some ad188) l0_2.length c0_2) := (blk_cell BK186.out 2).trans rfl; have hcz30_3 : w29.cell? ⟨gb186, 3, none⟩ = some (.int .i64 a0_3) := (blk_cell BK186.out 3).trans rfl; have hcz30_4 : w29.cell? ⟨gb186, 4, none⟩ = some (.int .i64 a0_4) := (blk_cell BK186.out 4).trans rfl; have hcz30_5 : w29.cell? ⟨gb186, 5, none⟩ = some (.int .u8 a0_5) := (blk_cell BK186.out 5).trans rfl; have hcz30_6 : w29.cell? ⟨gb186, 6, none⟩ = some (.int .i64 a0_6) := (blk_cell BK186.out 6).trans rfl; have hcz30_7 : w29.cell? ⟨gb186, 7, none⟩ = some (.string a0_7) := (blk_cell BK186.out 7).trans rfl; have hcz30_8 : w29.cell? ⟨gb186, 8, none⟩ = some (.slice A0_8 l0_8.length c0_8) := (blk_cell BK186.out 8).trans rfl; have hcz30_9 : w29.cell? ⟨gb186, 9, none⟩ = some (.bool a0_9) := (blk_cell BK186.out 9).trans rfl; have hcz30_10 : w29.cell? ⟨gb186, 10, none⟩ = some (.int .i64 a0_10) := (blk_cell BK186.out 10).trans rfl; have hfz30_0 := blk_frozen BK186.out 0; have hfz30_1 := blk_frozen BK186.out 1; have hfz30_2 := blk_frozen BK186.out 2; have hfz30_3 := blk_frozen BK186.out 3; have hfz30_4 := blk_frozen BK186.out 4; have hfz30_5 := blk_frozen BK186.out 5; have hfz30_6 := blk_frozen BK186.out 6; have hfz30_7 := blk_frozen BK186.out 7; have hfz30_8 := blk_frozen BK186.out 8; have hfz30_9 := blk_frozen BK186.out 9; have hfz30_10 := blk_frozen BK186.out 10; have p192 : 0 ≤ (x3_2 : Int) := of_decide_eq_true (by first | (with_reducible assumption) | assumption); have q192 : x3_2 < (l0_2.length : Int) := of_decide_eq_true (by first | (with_reducible assumption) | assumption); obtain ⟨ad192, A192_4, c192_4, A192_9, c192_9, A192_14, c192_14, e192, hx192_0, hx192_1, hx192_2, hx192_3, hx192_4, hx192_5, hx192_6, hx192_7, hx192_8, hx192_9, hx192_10, hx192_11, hx192_12, hx192_13, hx192_14, hl192_4, hi192_4, hl192_9, hi192_9, hl192_14, hi192_14⟩ := at_T47 HR0_2.out x3_2 p192 q192; obtain rfl : ad188 = ad192 := (by injection e192); replace hx192_0 := (HB.out.cell (World.block_lt_of_cell? w _ hx192_0)).trans hx192_0; replace hx192_1 := (HB.out.cell (World.block_lt_of_cell? w _ hx192_1)).trans hx192_1; replace hx192_2 := (HB.out.cell (World.block_lt_of_cell? w _ hx192_2)).trans hx192_2; replace hx192_3 := (HB.out.cell (World.block_lt_of_cell? w _ hx192_3)).trans hx192_3; replace hx192_4 := (HB.out.cell (World.block_lt_of_cell? w _ hx192_4)).trans hx192_4; replace hx192_5 := (HB.out.cell (World.block_lt_of_cell? w _ hx192_5)).trans hx192_5; replace hx192_6 := (HB.out.cell (World.block_lt_of_cell? w _ hx192_6)).trans hx192_6; replace hx192_7 := (HB.out.cell (World.block_lt_of_cell? w _ hx192_7)).trans hx192_7; replace hx192_8 := (HB.out.cell (World.block_lt_of_cell? w _ hx192_8)).trans hx192_8; replace hx192_9 := (HB.out.cell (World.block_lt_of_cell? w _ hx192_9)).trans hx192_9; replace hx192_10 := (HB.out.cell (World.block_lt_of_cell? w _ hx192_10)).trans hx192_10; replace hx192_11 := (HB.out.cell (World.block_lt_of_cell? w _ hx192_11)).trans hx192_11; replace hx192_12 := (HB.out.cell (World.block_lt_of_cell? w _ hx192_12)).trans hx192_12; replace hx192_13 := (HB.out.cell (World.block_lt_of_cell? w _ hx192_13)).trans hx192_13; replace hx192_14 := (HB.out.cell (World.block_lt_of_cell? w _ hx192_14)).trans hx192_14; have HR192_4 := Aside0.mk hi192_4; have HC192_4 := Aside0.mk hl192_4; clear hi192_4 hl192_4; have HR192_9 := Aside0.mk hi192_9; have HC192_9 := Aside0.mk hl192_9; clear hi192_9 hl192_9; have HR192_14 := Aside0.mk hi192_14; have HC192_14 := Aside0.mk hl192_14; clear hi192_14 hl192_14; replace p192 := eq_true p192; replace q192 := eq_true q192) | (go_at_call 6; (with_reducible refine (gristmillref09_Big.calls k2 ((rd_T47 l0_2 x3_2).f2.f0) ((rd_T47 l0_2 x3_2).f2.f1.f0) ((rd_T47 l0_2 x3_2).f2.f1.f1) ((rd_T47 l0_2 x3_2).f2.f1.f2) _ _ ((rd_T47 l0_2 x3_2).f2.f2) true _ ?side1 ?side2 A24.out).mono ?_); (case side1 => repeat (first | exact (Kd.C_below HR192_14.out HB.out) | (with_reducible refine Kd.C_alloc ?_ _) | (with_reducible refine Kd.C_drewN ?_ _) | (with_reducible refine Kd.C_drew ?_))); (case side2 => exact HC192_14.out); rintro e w31 ⟨rfl, hb⟩; have n0_ := Aside0.mk (blk_below (g := gb186) (o := .cells #[.string a0_0, .int .i64 a0_1, .slice (some ad188) l0_2.length c0_2, .int .i64 a0_3, .int .i64 a0_4, .int .u8 a0_5, .int .i64 a0_6, .string a0_7, .slice A0_8 l0_8.length c0_8, .bool a0_9, .int .i64 a0_10] 38 (0, 0)) (by (with_reducible repeat (first | refine blk_drewN ?_ _ | refine blk_drew ?_ | refine blk_alloc ?_ _)); exact BK186.out) hb); have n1_ := Aside0.mk (below_step (by repeat (first | (with_reducible first | exact HB.out | apply below_alloc | apply pw_below_drewN | apply below_drew1 | refine below_set ?_ GE186.out) | exact HB.out)) hb); clear BK186; clear HB; have BK186 := n0_; have HB := n1_; clear n0_ n1_; (try clear hb); (try clear hb2); (try clear hk); (try clear hi)))
           go_ret
           exact ⟨by first | rfl | (simp [errW_none, errW_some] <;> rfl) | (simp [*, errW_none, errW_some] <;> rfl), by repeat (first | (with_reducible first | exact HB.out | apply below_alloc | apply pw_below_drewN | apply below_drew1 | refine below_set ?_ GE186.out) | exact HB.out)⟩
          ·replace c25 := Bool.eq_false_iff.mpr c25
           subst c25
           have H1 : (gristmillref11_Big.l0 k2 (wrap64 (x3_2 + 1)) a0_0 a0_1 l0_2 a0_3 a0_4 a0_5 a0_6 a0_7 l0_8 a0_9 a0_10) = some r := by rw [if_neg (show ¬ (false = true) by decide)] at H; exact H
           clear H
           have H := H1
           clear H1
           have H' := Aside0.mk H
           clear H
           have hcz32_0 : wr.cell? ⟨gb186, 0, none⟩ = some (.string a0_0) := (blk_cell BK186.out 0).trans rfl
           have hcz32_1 : wr.cell? ⟨gb186, 1, none⟩ = some (.int .i64 a0_1) := (blk_cell BK186.out 1).trans rfl
           have hcz32_2 : wr.cell? ⟨gb186, 2, none⟩ = some (.slice A0_2 l0_2.length c0_2) := (blk_cell BK186.out 2).trans rfl
           have hcz32_3 : wr.cell? ⟨gb186, 3, none⟩ = some (.int .i64 a0_3) := (blk_cell BK186.out 3).trans rfl
           have hcz32_4 : wr.cell? ⟨gb186, 4, none⟩ = some (.int .i64 a0_4) := (blk_cell BK186.out 4).trans rfl
           have hcz32_5 : wr.cell? ⟨gb186, 5, none⟩ = some (.int .u8 a0_5) := (blk_cell BK186.out 5).trans rfl
           have hcz32_6 : wr.cell? ⟨gb186, 6, none⟩ = some (.int .i64 a0_6) := (blk_cell BK186.out 6).trans rfl
           have hcz32_7 : wr.cell? ⟨gb186, 7, none⟩ = some (.string a0_7) := (blk_cell BK186.out 7).trans rfl
           have hcz32_8 : wr.cell? ⟨gb186, 8, none⟩ = some (.slice A0_8 l0_8.length c0_8) := (blk_cell BK186.out 8).trans rfl
           have hcz32_9 : wr.cell? ⟨gb186, 9, none⟩ = some (.bool a0_9) := (blk_cell BK186.out 9).trans rfl
           have hcz32_10 : wr.cell? ⟨gb186, 10, none⟩ = some (.int .i64 a0_10) := (blk_cell BK186.out 10).trans rfl
           have hfz32_0 := blk_frozen BK186.out 0
           have hfz32_1 := blk_frozen BK186.out 1
           have hfz32_2 := blk_frozen BK186.out 2
           have hfz32_3 := blk_frozen BK186.out 3
           have hfz32_4 := blk_frozen BK186.out 4
           have hfz32_5 := blk_frozen BK186.out 5
           have hfz32_6 := blk_frozen BK186.out 6
           have hfz32_7 := blk_frozen BK186.out 7
           have hfz32_8 := blk_frozen BK186.out 8
           have hfz32_9 := blk_frozen BK186.out 9
           have hfz32_10 := blk_frozen BK186.out 10
           have p188 : 0 ≤ (x3_2 : Int) := of_decide_eq_true (by first | (with_reducible assumption) | assumption)
           have q188 : x3_2 < (l0_2.length : Int) := of_decide_eq_true (by first | (with_reducible assumption) | assumption)
           obtain ⟨ad188, A188_4, c188_4, A188_9, c188_9, A188_14, c188_14, e188, hx188_0, hx188_1, hx188_2, hx188_3, hx188_4, hx188_5, hx188_6, hx188_7, hx188_8, hx188_9, hx188_10, hx188_11, hx188_12, hx188_13, hx188_14, hl188_4, hi188_4, hl188_9, hi188_9, hl188_14, hi188_14⟩ := at_T47 HR0_2.out x3_2 p188 q188
           cases e188
           replace hx188_0 := (HB.out.cell (World.block_lt_of_cell? w _ hx188_0)).trans hx188_0
           replace hx188_1 := (HB.out.cell (World.block_lt_of_cell? w _ hx188_1)).trans hx188_1
           replace hx188_2 := (HB.out.cell (World.block_lt_of_cell? w _ hx188_2)).trans hx188_2
           replace hx188_3 := (HB.out.cell (World.block_lt_of_cell? w _ hx188_3)).trans hx188_3
           replace hx188_4 := (HB.out.cell (World.block_lt_of_cell? w _ hx188_4)).trans hx188_4
           replace hx188_5 := (HB.out.cell (World.block_lt_of_cell? w _ hx188_5)).trans hx188_5
           replace hx188_6 := (HB.out.cell (World.block_lt_of_cell? w _ hx188_6)).trans hx188_6
           replace hx188_7 := (HB.out.cell (World.block_lt_of_cell? w _ hx188_7)).trans hx188_7
           replace hx188_8 := (HB.out.cell (World.block_lt_of_cell? w _ hx188_8)).trans hx188_8
           replace hx188_9 := (HB.out.cell (World.block_lt_of_cell? w _ hx188_9)).trans hx188_9
           replace hx188_10 := (HB.out.cell (World.block_lt_of_cell? w _ hx188_10)).trans hx188_10
           replace hx188_11 := (HB.out.cell (World.block_lt_of_cell? w _ hx188_11)).trans hx188_11
           replace hx188_12 := (HB.out.cell (World.block_lt_of_cell? w _ hx188_12)).trans hx188_12
           replace hx188_13 := (HB.out.cell (World.block_lt_of_cell? w _ hx188_13)).trans hx188_13
           replace hx188_14 := (HB.out.cell (World.block_lt_of_cell? w _ hx188_14)).trans hx188_14
           have HR188_4 := Aside0.mk hi188_4
           have HC188_4 := Aside0.mk hl188_4
           clear hi188_4 hl188_4
           have HR188_9 := Aside0.mk hi188_9
           have HC188_9 := Aside0.mk hl188_9
           clear hi188_9 hl188_9
           have HR188_14 := Aside0.mk hi188_14
           have HC188_14 := Aside0.mk hl188_14
           clear hi188_14 hl188_14
           replace p188 := eq_true p188
           replace q188 := eq_true q188
           go_wp2_with (first | ((with_reducible refine gate_callee (f := 6) rfl ?_); refine goesL_ (some 32) rfl rfl Try.func6 (by kernel_rfl) rfl #[.agg #[.int .i64 ((rd_T47 l0_2 x3_2).f0.f0), .int .u8 ((rd_T47 l0_2 x3_2).f0.f1.f0), .int .i64 ((rd_T47 l0_2 x3_2).f0.f1.f1), .string ((rd_T47 l0_2 x3_2).f0.f1.f2), .slice A188_4 ((rd_T47 l0_2 x3_2).f0.f2).length c188_4]] rfl (by (try simp only [List.map_toArray, List.map_cons, List.map_nil]); first | done | rfl | (simp only [List.length_drop, List.length_take]; rfl)) ?_; (with_reducible refine (gristmillref09_Big.calls k2 ((rd_T47 l0_2 x3_2).f0.f0) ((rd_T47 l0_2 x3_2).f0.f1.f0) ((rd_T47 l0_2 x3_2).f0.f1.f1) ((rd_T47 l0_2 x3_2).f0.f1.f2) _ _ ((rd_T47 l0_2 x3_2).f0.f2) false _ ?side1 ?side2 A14.out).mono ?_); (case side1 => repeat (first | exact (Kd.C_below HR188_4.out HB.out) | (with_reducible refine Kd.C_alloc ?_ _) | (with_reducible refine Kd.C_drewN ?_ _) | (with_reducible refine Kd.C_drew ?_))); (case side2 => exact HC188_4.out); rintro e w33 ⟨rfl, hb⟩; refine ⟨_, rfl, ?_⟩; have n0_ := Aside0.mk (blk_below (g := gb186) (o := .cells #[.string a0_0, .int .i64 a0_1, .slice (some ad188) l0_2.length c0_2, .int .i64 a0_3, .int .i64 a0_4, .int .u8 a0_5, .int .i64 a0_6, .string a0_7, .slice A0_8 l0_8.length c0_8, .bool a0_9, .int .i64 a0_10] 38 (0, 0)) (by (with_reducible repeat (first | refine blk_drewN ?_ _ | refine blk_drew ?_ | refine blk_alloc ?_ _)); exact BK186.out) hb); have n1_ := Aside0.mk (below_step (by repeat (first | (with_reducible first | exact HB.out | apply below_alloc | apply pw_below_drewN | apply below_drew1 | refine below_set ?_ GE186.out) | exact HB.out)) hb); clear BK186; clear HB; have BK186 := n0_; have HB := n1_; clear n0_ n1_; (try clear hb); (try clear hb2); (try clear hk); (try clear hi); have hcz34_0 : w33.cell? ⟨gb186, 0, none⟩ = some (.string a0_0) := (blk_cell BK186.out 0).trans rfl; have hcz34_1 : w33.cell? ⟨gb186, 1, none⟩ = some (.int .i64 a0_1) := (blk_cell BK186.out 1).trans rfl; have hcz34_2 : w33.cell? ⟨gb186, 2, none⟩ = some (.slice (some ad188) l0_2.length c0_2) := (blk_cell BK186.out 2).trans rfl; have hcz34_3 : w33.cell? ⟨gb186, 3, none⟩ = some (.int .i64 a0_3) := (blk_cell BK186.out 3).trans rfl; have hcz34_4 : w33.cell? ⟨gb186, 4, none⟩ = some (.int .i64 a0_4) := (blk_cell BK186.out 4).trans rfl; have hcz34_5 : w33.cell? ⟨gb186, 5, none⟩ = some (.int .u8 a0_5) := (blk_cell BK186.out 5).trans rfl; have hcz34_6 : w33.cell? ⟨gb186, 6, none⟩ = some (.int .i64 a0_6) := (blk_cell BK186.out 6).trans rfl; have hcz34_7 : w33.cell? ⟨gb186, 7, none⟩ = some (.string a0_7) := (blk_cell BK186.out 7).trans rfl; have hcz34_8 : w33.cell? ⟨gb186, 8, none⟩ = some (.slice A0_8 l0_8.length c0_8) := (blk_cell BK186.out 8).trans rfl; have hcz34_9 : w33.cell? ⟨gb186, 9, none⟩ = some (.bool a0_9) := (blk_cell BK186.out 9).trans rfl; have hcz34_10 : w33.cell? ⟨gb186, 10, none⟩ = some (.int .i64 a0_10) := (blk_cell BK186.out 10).trans rfl; have hfz34_0 := blk_frozen BK186.out 0; have hfz34_1 := blk_frozen BK186.out 1; have hfz34_2 := blk_frozen BK186.out 2; have hfz34_3 := blk_frozen BK186.out 3; have hfz34_4 := blk_frozen BK186.out 4; have hfz34_5 := blk_frozen BK186.out 5; have hfz34_6 := blk_frozen BK186.out 6; have hfz34_7 := blk_frozen BK186.out 7; have hfz34_8 := blk_frozen BK186.out 8; have hfz34_9 := blk_frozen BK186.out 9; have hfz34_10 := blk_frozen BK186.out 10; have p190 : 0 ≤ (x3_2 : Int) := of_decide_eq_true (by first | (with_reducible assumption) | assumption); have q190 : x3_2 < (l0_2.length : Int) := of_decide_eq_true (by first | (with_reducible assumption) | assumption); obtain ⟨ad190, A190_4, c190_4, A190_9, c190_9, A190_14, c190_14, e190, hx190_0, hx190_1, hx190_2, hx190_3, hx190_4, hx190_5, hx190_6, hx190_7, hx190_8, hx190_9, hx190_10, hx190_11, hx190_12, hx190_13, hx190_14, hl190_4, hi190_4, hl190_9, hi190_9, hl190_14, hi190_14⟩ := at_T47 HR0_2.out x3_2 p190 q190; obtain rfl : ad188 = ad190 := (by injection e190); replace hx190_0 := (HB.out.cell (World.block_lt_of_cell? w _ hx190_0)).trans hx190_0; replace hx190_1 := (HB.out.cell (World.block_lt_of_cell? w _ hx190_1)).trans hx190_1; replace hx190_2 := (HB.out.cell (World.block_lt_of_cell? w _ hx190_2)).trans hx190_2; replace hx190_3 := (HB.out.cell (World.block_lt_of_cell? w _ hx190_3)).trans hx190_3; replace hx190_4 := (HB.out.cell (World.block_lt_of_cell? w _ hx190_4)).trans hx190_4; replace hx190_5 := (HB.out.cell (World.block_lt_of_cell? w _ hx190_5)).trans hx190_5; replace hx190_6 := (HB.out.cell (World.block_lt_of_cell? w _ hx190_6)).trans hx190_6; replace hx190_7 := (HB.out.cell (World.block_lt_of_cell? w _ hx190_7)).trans hx190_7; replace hx190_8 := (HB.out.cell (World.block_lt_of_cell? w _ hx190_8)).trans hx190_8; replace hx190_9 := (HB.out.cell (World.block_lt_of_cell? w _ hx190_9)).trans hx190_9; replace hx190_10 := (HB.out.cell (World.block_lt_of_cell? w _ hx190_10)).trans hx190_10; replace hx190_11 := (HB.out.cell (World.block_lt_of_cell? w _ hx190_11)).trans hx190_11; replace hx190_12 := (HB.out.cell (World.block_lt_of_cell? w _ hx190_12)).trans hx190_12; replace hx190_13 := (HB.out.cell (World.block_lt_of_cell? w _ hx190_13)).trans hx190_13; replace hx190_14 := (HB.out.cell (World.block_lt_of_cell? w _ hx190_14)).trans hx190_14; have HR190_4 := Aside0.mk hi190_4; have HC190_4 := Aside0.mk hl190_4; clear hi190_4 hl190_4; have HR190_9 := Aside0.mk hi190_9; have HC190_9 := Aside0.mk hl190_9; clear hi190_9 hl190_9; have HR190_14 := Aside0.mk hi190_14; have HC190_14 := Aside0.mk hl190_14; clear hi190_14 hl190_14; replace p190 := eq_true p190; replace q190 := eq_true q190) | (go_at_call 6; (with_reducible refine (gristmillref09_Big.calls k2 ((rd_T47 l0_2 x3_2).f1.f0) ((rd_T47 l0_2 x3_2).f1.f1.f0) ((rd_T47 l0_2 x3_2).f1.f1.f1) ((rd_T47 l0_2 x3_2).f1.f1.f2) _ _ ((rd_T47 l0_2 x3_2).f1.f2) false _ ?side1 ?side2 A18.out).mono ?_); (case side1 => repeat (first | exact (Kd.C_below HR190_9.out HB.out) | (with_reducible refine Kd.C_alloc ?_ _) | (with_reducible refine Kd.C_drewN ?_ _) | (with_reducible refine Kd.C_drew ?_))); (case side2 => exact HC190_9.out); rintro e w35 ⟨rfl, hb⟩; have n0_ := Aside0.mk (blk_below (g := gb186) (o := .cells #[.string a0_0, .int .i64 a0_1, .slice (some ad188) l0_2.length c0_2, .int .i64 a0_3, .int .i64 a0_4, .int .u8 a0_5, .int .i64 a0_6, .string a0_7, .slice A0_8 l0_8.length c0_8, .bool a0_9, .int .i64 a0_10] 38 (0, 0)) (by (with_reducible repeat (first | refine blk_drewN ?_ _ | refine blk_drew ?_ | refine blk_alloc ?_ _)); exact BK186.out) hb); have n1_ := Aside0.mk (below_step (by repeat (first | (with_reducible first | exact HB.out | apply below_alloc | apply pw_below_drewN | apply below_drew1 | refine below_set ?_ GE186.out) | exact HB.out)) hb); clear BK186; clear HB; have BK186 := n0_; have HB := n1_; clear n0_ n1_; (try clear hb); (try clear hb2); (try clear hk); (try clear hi); have hcz36_0 : w35.cell? ⟨gb186, 0, none⟩ = some (.string a0_0) := (blk_cell BK186.out 0).trans rfl; have hcz36_1 : w35.cell? ⟨gb186, 1, none⟩ = some (.int .i64 a0_1) := (blk_cell BK186.out 1).trans rfl; have hcz36_2 : w35.cell? ⟨gb186, 2, none⟩ = some (.slice (some ad188) l0_2.length c0_2) := (blk_cell BK186.out 2).trans rfl; have hcz36_3 : w35.cell? ⟨gb186, 3, none⟩ = some (.int .i64 a0_3) := (blk_cell BK186.out 3).trans rfl; have hcz36_4 : w35.cell? ⟨gb186, 4, none⟩ = some (.int .i64 a0_4) := (blk_cell BK186.out 4).trans rfl; have hcz36_5 : w35.cell? ⟨gb186, 5, none⟩ = some (.int .u8 a0_5) := (blk_cell BK186.out 5).trans rfl; have hcz36_6 : w35.cell? ⟨gb186, 6, none⟩ = some (.int .i64 a0_6) := (blk_cell BK186.out 6).trans rfl; have hcz36_7 : w35.cell? ⟨gb186, 7, none⟩ = some (.string a0_7) := (blk_cell BK186.out 7).trans rfl; have hcz36_8 : w35.cell? ⟨gb186, 8, none⟩ = some (.slice A0_8 l0_8.length c0_8) := (blk_cell BK186.out 8).trans rfl; have hcz36_9 : w35.cell? ⟨gb186, 9, none⟩ = some (.bool a0_9) := (blk_cell BK186.out 9).trans rfl; have hcz36_10 : w35.cell? ⟨gb186, 10, none⟩ = some (.int .i64 a0_10) := (blk_cell BK186.out 10).trans rfl; have hfz36_0 := blk_frozen BK186.out 0; have hfz36_1 := blk_frozen BK186.out 1; have hfz36_2 := blk_frozen BK186.out 2; have hfz36_3 := blk_frozen BK186.out 3; have hfz36_4 := blk_frozen BK186.out 4; have hfz36_5 := blk_frozen BK186.out 5; have hfz36_6 := blk_frozen BK186.out 6; have hfz36_7 := blk_frozen BK186.out 7; have hfz36_8 := blk_frozen BK186.out 8; have hfz36_9 := blk_frozen BK186.out 9; have hfz36_10 := blk_frozen BK186.out 10; have p192 : 0 ≤ (x3_2 : Int) := of_decide_eq_true (by first | (with_reducible assumption) | assumption); have q192 : x3_2 < (l0_2.length : Int) := of_decide_eq_true (by first | (with_reducible assumption) | assumption); obtain ⟨ad192, A192_4, c192_4, A192_9, c192_9, A192_14, c192_14, e192, hx192_0, hx192_1, hx192_2, hx192_3, hx192_4, hx192_5, hx192_6, hx192_7, hx192_8, hx192_9, hx192_10, hx192_11, hx192_12, hx192_13, hx192_14, hl192_4, hi192_4, hl192_9, hi192_9, hl192_14, hi192_14⟩ := at_T47 HR0_2.out x3_2 p192 q192; obtain rfl : ad188 = ad192 := (by injection e192); replace hx192_0 := (HB.out.cell (World.block_lt_of_cell? w _ hx192_0)).trans hx192_0; replace hx192_1 := (HB.out.cell (World.block_lt_of_cell? w _ hx192_1)).trans hx192_1; replace hx192_2 := (HB.out.cell (World.block_lt_of_cell? w _ hx192_2)).trans hx192_2; replace hx192_3 := (HB.out.cell (World.block_lt_of_cell? w _ hx192_3)).trans hx192_3; replace hx192_4 := (HB.out.cell (World.block_lt_of_cell? w _ hx192_4)).trans hx192_4; replace hx192_5 := (HB.out.cell (World.block_lt_of_cell? w _ hx192_5)).trans hx192_5; replace hx192_6 := (HB.out.cell (World.block_lt_of_cell? w _ hx192_6)).trans hx192_6; replace hx192_7 := (HB.out.cell (World.block_lt_of_cell? w _ hx192_7)).trans hx192_7; replace hx192_8 := (HB.out.cell (World.block_lt_of_cell? w _ hx192_8)).trans hx192_8; replace hx192_9 := (HB.out.cell (World.block_lt_of_cell? w _ hx192_9)).trans hx192_9; replace hx192_10 := (HB.out.cell (World.block_lt_of_cell? w _ hx192_10)).trans hx192_10; replace hx192_11 := (HB.out.cell (World.block_lt_of_cell? w _ hx192_11)).trans hx192_11; replace hx192_12 := (HB.out.cell (World.block_lt_of_cell? w _ hx192_12)).trans hx192_12; replace hx192_13 := (HB.out.cell (World.block_lt_of_cell? w _ hx192_13)).trans hx192_13; replace hx192_14 := (HB.out.cell (World.block_lt_of_cell? w _ hx192_14)).trans hx192_14; have HR192_4 := Aside0.mk hi192_4; have HC192_4 := Aside0.mk hl192_4; clear hi192_4 hl192_4; have HR192_9 := Aside0.mk hi192_9; have HC192_9 := Aside0.mk hl192_9; clear hi192_9 hl192_9; have HR192_14 := Aside0.mk hi192_14; have HC192_14 := Aside0.mk hl192_14; clear hi192_14 hl192_14; replace p192 := eq_true p192; replace q192 := eq_true q192) | (go_at_call 6; (with_reducible refine (gristmillref09_Big.calls k2 ((rd_T47 l0_2 x3_2).f2.f0) ((rd_T47 l0_2 x3_2).f2.f1.f0) ((rd_T47 l0_2 x3_2).f2.f1.f1) ((rd_T47 l0_2 x3_2).f2.f1.f2) _ _ ((rd_T47 l0_2 x3_2).f2.f2) false _ ?side1 ?side2 A24.out).mono ?_); (case side1 => repeat (first | exact (Kd.C_below HR192_14.out HB.out) | (with_reducible refine Kd.C_alloc ?_ _) | (with_reducible refine Kd.C_drewN ?_ _) | (with_reducible refine Kd.C_drew ?_))); (case side2 => exact HC192_14.out); rintro e w37 ⟨rfl, hb⟩; have n0_ := Aside0.mk (blk_below (g := gb186) (o := .cells #[.string a0_0, .int .i64 a0_1, .slice (some ad188) l0_2.length c0_2, .int .i64 a0_3, .int .i64 a0_4, .int .u8 a0_5, .int .i64 a0_6, .string a0_7, .slice A0_8 l0_8.length c0_8, .bool a0_9, .int .i64 a0_10] 38 (0, 0)) (by (with_reducible repeat (first | refine blk_drewN ?_ _ | refine blk_drew ?_ | refine blk_alloc ?_ _)); exact BK186.out) hb); have n1_ := Aside0.mk (below_step (by repeat (first | (with_reducible first | exact HB.out | apply below_alloc | apply pw_below_drewN | apply below_drew1 | refine below_set ?_ GE186.out) | exact HB.out)) hb); clear BK186; clear HB; have BK186 := n0_; have HB := n1_; clear n0_ n1_; (try clear hb); (try clear hb2); (try clear hk); (try clear hi)))
           go_roundg k2
           case measure => have := HJ1.out; have := HK2.out; omega
           case rel => exact ⟨(wrap64 (x3_2 + 1)), (by first | rfl | (simp; done) | (simp [*]; done)), H', ⟨by have := HJ1.out; have := HK2.out; omega⟩, ⟨by (with_reducible repeat (first | refine blk_drewN ?_ _ | refine blk_drew ?_ | refine blk_alloc ?_ _)); exact BK186.out⟩, ⟨by repeat (first | (with_reducible first | exact HB.out | apply below_alloc | apply pw_below_drewN | apply below_drew1 | refine below_set ?_ GE186.out) | exact HB.out)⟩⟩
       ·rw [if_neg c13] at H
        exact absurd H (by simp)
      ·rw [if_neg c12] at H
       have c12b0 : decide (x3_2 < (l0_2.length : Int)) = false := decide_eq_false c12
       clear c12
       obtain rfl := Option.some.inj H
       have hcz38_0 : wr.cell? ⟨gb186, 0, none⟩ = some (.string a0_0) := (blk_cell BK186.out 0).trans rfl
       have hcz38_1 : wr.cell? ⟨gb186, 1, none⟩ = some (.int .i64 a0_1) := (blk_cell BK186.out 1).trans rfl
       have hcz38_2 : wr.cell? ⟨gb186, 2, none⟩ = some (.slice A0_2 l0_2.length c0_2) := (blk_cell BK186.out 2).trans rfl
       have hcz38_3 : wr.cell? ⟨gb186, 3, none⟩ = some (.int .i64 a0_3) := (blk_cell BK186.out 3).trans rfl
       have hcz38_4 : wr.cell? ⟨gb186, 4, none⟩ = some (.int .i64 a0_4) := (blk_cell BK186.out 4).trans rfl
       have hcz38_5 : wr.cell? ⟨gb186, 5, none⟩ = some (.int .u8 a0_5) := (blk_cell BK186.out 5).trans rfl
       have hcz38_6 : wr.cell? ⟨gb186, 6, none⟩ = some (.int .i64 a0_6) := (blk_cell BK186.out 6).trans rfl
       have hcz38_7 : wr.cell? ⟨gb186, 7, none⟩ = some (.string a0_7) := (blk_cell BK186.out 7).trans rfl
       have hcz38_8 : wr.cell? ⟨gb186, 8, none⟩ = some (.slice A0_8 l0_8.length c0_8) := (blk_cell BK186.out 8).trans rfl
       have hcz38_9 : wr.cell? ⟨gb186, 9, none⟩ = some (.bool a0_9) := (blk_cell BK186.out 9).trans rfl
       have hcz38_10 : wr.cell? ⟨gb186, 10, none⟩ = some (.int .i64 a0_10) := (blk_cell BK186.out 10).trans rfl
       have hfz38_0 := blk_frozen BK186.out 0
       have hfz38_1 := blk_frozen BK186.out 1
       have hfz38_2 := blk_frozen BK186.out 2
       have hfz38_3 := blk_frozen BK186.out 3
       have hfz38_4 := blk_frozen BK186.out 4
       have hfz38_5 := blk_frozen BK186.out 5
       have hfz38_6 := blk_frozen BK186.out 6
       have hfz38_7 := blk_frozen BK186.out 7
       have hfz38_8 := blk_frozen BK186.out 8
       have hfz38_9 := blk_frozen BK186.out 9
       have hfz38_10 := blk_frozen BK186.out 10
       go_wp2
       go_ret
       exact ⟨by first | rfl | (simp [errW_none, errW_some] <;> rfl) | (simp [*, errW_none, errW_some] <;> rfl), by repeat (first | (with_reducible first | exact HB.out | apply below_alloc | apply pw_below_drewN | apply below_drew1 | refine below_set ?_ GE186.out) | exact HB.out)⟩
def check_Commutes.f (a0 : Int) : Option (Bool) := if a0 ≥ 0 then (some (decide (a0 ≤ 3))) else (some false)
set_option maxHeartbeats 8000000 in
set_option maxRecDepth 100000 in
theorem check_Commutes.calls (a0 : Int) (r : Bool) (w : World) (h : check_Commutes.f a0 = some r) :
 Calls Try.prog 16 #[.int .i64 a0] w fun e w' => e = .returned (.bool r) ∧ Drawn0 w w' := by
 have H : (if a0 ≥ 0 then (some (decide (a0 ≤ 3))) else (some false)) = some r := h
 clear h
 by_cases c2 : a0 ≥ 0
 ·rw [if_pos c2] at H
  have c2b0 : decide (0 ≤ a0) = true := decide_eq_true c2
  clear c2
  obtain rfl := Option.some.inj H
  go_enter Try.func16, Try.ntmps16
  go_wp2
  go_ret
  exact ⟨by first | rfl | (simp; done) | (simp [*]; done), by repeat (first | exact Drawn0.refl _ | apply Drawn0.step)⟩
 ·rw [if_neg c2] at H
  have c2b0 : decide (0 ≤ a0) = false := decide_eq_false c2
  clear c2
  obtain rfl := Option.some.inj H
  go_enter Try.func16, Try.ntmps16
  go_wp2
  go_ret
  exact ⟨by first | rfl | (simp; done) | (simp [*]; done), by repeat (first | exact Drawn0.refl _ | apply Drawn0.step)⟩
def job_names.f  : Option (List ByteArray) := some (([(⟨#[115, 117, 109]⟩ : ByteArray), (⟨#[109, 105, 110]⟩ : ByteArray), (⟨#[109, 97, 120]⟩ : ByteArray), (⟨#[99, 111, 117, 110, 116]⟩ : ByteArray), (⟨#[99, 97, 116]⟩ : ByteArray), (⟨#[102, 105, 114, 115, 116]⟩ : ByteArray), (⟨#[108, 97, 115, 116]⟩ : ByteArray)] : List ByteArray))
set_option maxHeartbeats 8000000 in
set_option maxRecDepth 100000 in
theorem job_names.calls  (r : List ByteArray) (w : World) (h : job_names.f  = some r) :
 Calls Try.prog 36 #[] w fun e w' => ∃ v0_ : Value, e = .returned (v0_) ∧ Kd.R Kd.string 9 w' w.heap.size (fun _ => True) v0_ r ∧ Below w.heap.size w w' := by
 have HB := Aside0.mk (Below.refl w.heap.size w)
 have H : (some (([(⟨#[115, 117, 109]⟩ : ByteArray), (⟨#[109, 105, 110]⟩ : ByteArray), (⟨#[109, 97, 120]⟩ : ByteArray), (⟨#[99, 111, 117, 110, 116]⟩ : ByteArray), (⟨#[99, 97, 116]⟩ : ByteArray), (⟨#[102, 105, 114, 115, 116]⟩ : ByteArray), (⟨#[108, 97, 115, 116]⟩ : ByteArray)] : List ByteArray))) = some r := h
 clear h
 obtain ⟨y194, hy194⟩ : ∃ y_ : List ByteArray, y_ = (([(⟨#[115, 117, 109]⟩ : ByteArray), (⟨#[109, 105, 110]⟩ : ByteArray), (⟨#[109, 97, 120]⟩ : ByteArray), (⟨#[99, 111, 117, 110, 116]⟩ : ByteArray), (⟨#[99, 97, 116]⟩ : ByteArray), (⟨#[102, 105, 114, 115, 116]⟩ : ByteArray), (⟨#[108, 97, 115, 116]⟩ : ByteArray)] : List ByteArray)) := ⟨_, rfl⟩
 replace H : (some y194) = some r := by first | (rw [hy194]; with_reducible exact H) | (have H2_ := (Option.bind_some _ _).symm.trans H; rw [hy194]; with_reducible exact H2_) | (have H2_ := (Option.bind_some _ _).symm.trans H; with_reducible exact H2_) | with_reducible exact H | (rw [hy194]; exact H) | exact H
 have Ny194 := Aside0.mk hy194
 clear hy194
 obtain rfl := Option.some.inj H
 go_enter Try.func36, Try.ntmps36
 go_wp2_with (first | ((with_reducible refine gate_dst (N := 1) rfl ?_); refine Kd.R_lit Kd.string _ 9 ?hg (N := 1) ?hd (xs := ([(⟨#[115, 117, 109]⟩ : ByteArray), (⟨#[109, 105, 110]⟩ : ByteArray), (⟨#[109, 97, 120]⟩ : ByteArray), (⟨#[99, 111, 117, 110, 116]⟩ : ByteArray), (⟨#[99, 97, 116]⟩ : ByteArray), (⟨#[102, 105, 114, 115, 116]⟩ : ByteArray), (⟨#[108, 97, 115, 116]⟩ : ByteArray)] : List ByteArray)) (inner := [.string (⟨#[115, 117, 109]⟩ : ByteArray), .string (⟨#[109, 105, 110]⟩ : ByteArray), .string (⟨#[109, 97, 120]⟩ : ByteArray), .string (⟨#[99, 111, 117, 110, 116]⟩ : ByteArray), .string (⟨#[99, 97, 116]⟩ : ByteArray), .string (⟨#[102, 105, 114, 115, 116]⟩ : ByteArray), .string (⟨#[108, 97, 115, 116]⟩ : ByteArray)]) (ok := fun _ => True) (okp := fun _ => True) ?hr ?hp (fun _ hk => hk) trivial (Below.refl _ _) (Nat.le_refl _) (by simp) ?_; (case hd => rfl); (case hg => rfl); (case hr => first | (go_simp; done) | (go_simp; rfl)); (case hp => exact (Reps.one (show Kd.M Kd.string _ _ _ (⟨#[115, 117, 109]⟩ : ByteArray) [.string (⟨#[115, 117, 109]⟩ : ByteArray)] from rfl) (Reps.one (show Kd.M Kd.string _ _ _ (⟨#[109, 105, 110]⟩ : ByteArray) [.string (⟨#[109, 105, 110]⟩ : ByteArray)] from rfl) (Reps.one (show Kd.M Kd.string _ _ _ (⟨#[109, 97, 120]⟩ : ByteArray) [.string (⟨#[109, 97, 120]⟩ : ByteArray)] from rfl) (Reps.one (show Kd.M Kd.string _ _ _ (⟨#[99, 111, 117, 110, 116]⟩ : ByteArray) [.string (⟨#[99, 111, 117, 110, 116]⟩ : ByteArray)] from rfl) (Reps.one (show Kd.M Kd.string _ _ _ (⟨#[99, 97, 116]⟩ : ByteArray) [.string (⟨#[99, 97, 116]⟩ : ByteArray)] from rfl) (Reps.one (show Kd.M Kd.string _ _ _ (⟨#[102, 105, 114, 115, 116]⟩ : ByteArray) [.string (⟨#[102, 105, 114, 115, 116]⟩ : ByteArray)] from rfl) (Reps.one (show Kd.M Kd.string _ _ _ (⟨#[108, 97, 115, 116]⟩ : ByteArray) [.string (⟨#[108, 97, 115, 116]⟩ : ByteArray)] from rfl) (Reps.none _ _))))))))); intro v195 w1 ho2 hb hg_ hnew_; clear hg_ hnew_; (first | rw [← Ny194.out] at ho2 | (simp only [Int.reduceToNat] at ho2; rw [← Ny194.out] at ho2)); have n0_ := Aside0.mk (Kd.R_lower ho2 (below_size (by repeat (first | (with_reducible first | exact HB.out | apply below_alloc | apply pw_below_drewN | apply below_drew1) | exact HB.out)))); have n1_ := Aside0.mk (below_step (by repeat (first | (with_reducible first | exact HB.out | apply below_alloc | apply pw_below_drewN | apply below_drew1) | exact HB.out)) hb); clear HB; have HO196 := n0_; have HB := n1_; clear n0_ n1_; clear hb ho2))
 go_ret
 exact ⟨_, by first | rfl | (simp [errW_none, errW_some] <;> rfl) | (simp [*, errW_none, errW_some] <;> rfl), by (with_reducible repeat (first | apply Kd.R_alloc | apply Kd.R_drewN | apply Kd.R_drew)); exact HO196.out, by repeat (first | (with_reducible first | exact HB.out | apply below_alloc | apply pw_below_drewN | apply below_drew1) | exact HB.out)⟩
def job_Fold.f (a0 : Int) : Option (ByteArray) := if a0 < 0 then (some (⟨#[]⟩ : ByteArray)) else (if a0 ≥ 7 then (some (⟨#[]⟩ : ByteArray)) else ((job_names.f).bind fun t197 => (if 0 ≤ a0 then (if a0 < (t197.length : Int) then (some (rdOf ByteArray.empty t197 a0)) else (none)) else (none))))
set_option maxHeartbeats 8000000 in
set_option maxRecDepth 100000 in
theorem job_Fold.calls (a0 : Int) (r : ByteArray) (w : World) (h : job_Fold.f a0 = some r) :
 Calls Try.prog 28 #[.int .i64 a0] w fun e w' => e = .returned (.string r) ∧ Below w.heap.size w w' := by
 have HB := Aside0.mk (Below.refl w.heap.size w)
 have H : (if a0 < 0 then (some (⟨#[]⟩ : ByteArray)) else (if a0 ≥ 7 then (some (⟨#[]⟩ : ByteArray)) else ((job_names.f).bind fun t197 => (if 0 ≤ a0 then (if a0 < (t197.length : Int) then (some (rdOf ByteArray.empty t197 a0)) else (none)) else (none))))) = some r := h
 clear h
 by_cases c2 : a0 < 0
 ·rw [if_pos c2] at H
  have c2b0 : decide (a0 < 0) = true := decide_eq_true c2
  clear c2
  obtain rfl := Option.some.inj H
  go_enter Try.func28, Try.ntmps28
  go_wp2
  go_ret
  exact ⟨by first | rfl | (simp [errW_none, errW_some] <;> rfl) | (simp [*, errW_none, errW_some] <;> rfl), by repeat (first | (with_reducible first | exact HB.out | apply below_alloc | apply pw_below_drewN | apply below_drew1) | exact HB.out)⟩
 ·rw [if_neg c2] at H
  have c2b0 : decide (a0 < 0) = false := decide_eq_false c2
  clear c2
  by_cases c3 : a0 ≥ 7
  ·rw [if_pos c3] at H
   have c3b0 : decide (7 ≤ a0) = true := decide_eq_true c3
   clear c3
   obtain rfl := Option.some.inj H
   go_enter Try.func28, Try.ntmps28
   go_wp2
   go_ret
   exact ⟨by first | rfl | (simp [errW_none, errW_some] <;> rfl) | (simp [*, errW_none, errW_some] <;> rfl), by repeat (first | (with_reducible first | exact HB.out | apply below_alloc | apply pw_below_drewN | apply below_drew1) | exact HB.out)⟩
  ·rw [if_neg c3] at H
   have c3b0 : decide (7 ≤ a0) = false := decide_eq_false c3
   clear c3
   replace H := Option.bind_eq_some_iff.mp H
   obtain ⟨t197, A40, H⟩ := H
   replace H : (if 0 ≤ a0 then (if a0 < (t197.length : Int) then (some (rdOf ByteArray.empty t197 a0)) else (none)) else (none)) = some r := H
   have A4 := Aside0.mk A40
   clear A40
   by_cases c5 : 0 ≤ a0
   ·rw [if_pos c5] at H
    have c5b0 : decide (0 ≤ a0) = true := decide_eq_true c5
    clear c5
    by_cases c6 : a0 < (t197.length : Int)
    ·rw [if_pos c6] at H
     have c6b0 : decide (a0 < (t197.length : Int)) = true := decide_eq_true c6
     clear c6
     obtain rfl := Option.some.inj H
     go_enter Try.func28, Try.ntmps28
     go_wp2_with (first | ((with_reducible refine gate_callee (f := 36) rfl ?_); refine goesL_ (some 9) rfl rfl Try.func36 (by kernel_rfl) rfl #[] rfl (by (try simp only [List.map_toArray, List.map_cons, List.map_nil]); first | done | rfl | (simp only [List.length_drop, List.length_take]; rfl)) ?_; (with_reducible refine (job_names.calls  t197 _ A4.out).mono ?_); rintro e w7 ⟨v198, rfl, ho0, hb⟩; refine ⟨_, rfl, ?_⟩; have n0_ := Aside0.mk (Kd.R_lower ho0 (below_size (by repeat (first | (with_reducible first | exact HB.out | apply below_alloc | apply pw_below_drewN | apply below_drew1) | exact HB.out)))); have n1_ := Aside0.mk (below_step (by repeat (first | (with_reducible first | exact HB.out | apply below_alloc | apply pw_below_drewN | apply below_drew1) | exact HB.out)) hb); clear HB; have HO199 := n0_; have HB := n1_; clear n0_ n1_; (try clear hb); (try clear hb2); (try clear hk); (try clear hi); (try clear ho0); obtain ⟨Ao8, co8, eo8⟩ := Kd.R_slice HO199.out; subst eo8; have p200 : 0 ≤ (a0 : Int) := of_decide_eq_true (by first | (with_reducible assumption) | assumption); have q200 : a0 < (t197.length : Int) := of_decide_eq_true (by first | (with_reducible assumption) | assumption); obtain ⟨ad200, e200, hx200_0⟩ := Kd.at_string (Kd.R_reads' HO199.out).2.2 a0 p200 q200; cases e200; replace p200 := eq_true p200; replace q200 := eq_true q200))
     go_ret
     exact ⟨by first | rfl | (simp [errW_none, errW_some] <;> rfl) | (simp [*, errW_none, errW_some] <;> rfl), by repeat (first | (with_reducible first | exact HB.out | apply below_alloc | apply pw_below_drewN | apply below_drew1) | exact HB.out)⟩
    ·rw [if_neg c6] at H
     exact absurd H (by simp)
   ·rw [if_neg c5] at H
    exact absurd H (by simp)
def check_stage.f (a0_0 : ByteArray) (a0_1 : Int) (l0_2 : List (S47)) (a0_3 : Int) (a0_4 : Int) (a0_5 : Int) (a0_6 : Int) (a0_7 : ByteArray) (l0_8 : List (S26)) (a0_9 : Bool) (a0_10 : Int) : Option (Int) := if a0_1 ≥ 0 then (some 1) else (some 0)
set_option maxHeartbeats 8000000 in
set_option maxRecDepth 100000 in
theorem check_stage.calls (a0_0 : ByteArray) (a0_1 : Int) (A0_2 : Option Addr) (c0_2 : Nat) (l0_2 : List (S47)) (a0_3 : Int) (a0_4 : Int) (a0_5 : Int) (a0_6 : Int) (a0_7 : ByteArray) (A0_8 : Option Addr) (c0_8 : Nat) (l0_8 : List (S26)) (a0_9 : Bool) (a0_10 : Int) (r : Int) (w : World) (hr0_2 : Kd.C k47 w A0_2 l0_2.length l0_2) (hc0_2 : l0_2.length ≤ c0_2) (hr0_8 : Kd.C k26 w A0_8 l0_8.length l0_8) (hc0_8 : l0_8.length ≤ c0_8) (h : check_stage.f a0_0 a0_1 l0_2 a0_3 a0_4 a0_5 a0_6 a0_7 l0_8 a0_9 a0_10 = some r) :
 Calls Try.prog 29 #[.agg #[.string a0_0, .int .i64 a0_1, .slice A0_2 l0_2.length c0_2, .int .i64 a0_3, .int .i64 a0_4, .int .u8 a0_5, .int .i64 a0_6, .string a0_7, .slice A0_8 l0_8.length c0_8, .bool a0_9, .int .i64 a0_10]] w fun e w' => e = .returned (.int .i64 r) ∧ Below w.heap.size w w' := by
 have hu38 := Try.underlying38
 have HR0_2 := Aside0.mk hr0_2
 have HC0_2 := Aside0.mk hc0_2
 clear hr0_2 hc0_2
 have HR0_8 := Aside0.mk hr0_8
 have HC0_8 := Aside0.mk hc0_8
 clear hr0_8 hc0_8
 have HB := Aside0.mk (Below.refl w.heap.size w)
 have H : (if a0_1 ≥ 0 then (some 1) else (some 0)) = some r := h
 clear h
 by_cases c2 : a0_1 ≥ 0
 ·rw [if_pos c2] at H
  have c2b0 : decide (0 ≤ a0_1) = true := decide_eq_true c2
  clear c2
  obtain rfl := Option.some.inj H
  go_enter Try.func29, Try.ntmps29
  go_wp2_with (first | ((with_reducible refine gate_dst (N := 1) rfl ?_); refine box_event ?hg (N := 1) ?hd (cs := #[.string a0_0, .int .i64 a0_1, .slice A0_2 l0_2.length c0_2, .int .i64 a0_3, .int .i64 a0_4, .int .u8 a0_5, .int .i64 a0_6, .string a0_7, .slice A0_8 l0_8.length c0_8, .bool a0_9, .int .i64 a0_10]) (t := 38) ?hr ?_; (case hd => rfl); (case hg => rfl); (case hr => first | (go_simp; done) | (go_simp; rfl)); intro gb201 hg w3 hbox hb; have n0_ := Aside0.mk (below_step (by repeat (first | (with_reducible first | exact HB.out | apply below_alloc | apply pw_below_drewN | apply below_drew1) | exact HB.out)) hb); have n1_ := Aside0.mk (hbox); have n2_ := Aside0.mk ((by rw [hg]; exact (below_size (by repeat (first | (with_reducible first | exact HB.out | apply below_alloc | apply pw_below_drewN | apply below_drew1) | exact HB.out))) : w.heap.size ≤ gb201)); have n3_ := Aside0.mk ((by rw [hg]; exact (below_size (by repeat (first | (with_reducible first | exact HB.out | apply below_alloc | apply pw_below_drewN | apply below_drew1) | exact HB.out))) : w.heap.size ≤ gb201)); clear HB; have HB := n0_; have BK201 := n1_; have GW201 := n2_; have GE201 := n3_; clear n0_ n1_ n2_ n3_; clear hb hbox hg; have hcz4_0 : w3.cell? ⟨gb201, 0, none⟩ = some (.string a0_0) := (blk_cell BK201.out 0).trans rfl; have hcz4_1 : w3.cell? ⟨gb201, 1, none⟩ = some (.int .i64 a0_1) := (blk_cell BK201.out 1).trans rfl; have hcz4_2 : w3.cell? ⟨gb201, 2, none⟩ = some (.slice A0_2 l0_2.length c0_2) := (blk_cell BK201.out 2).trans rfl; have hcz4_3 : w3.cell? ⟨gb201, 3, none⟩ = some (.int .i64 a0_3) := (blk_cell BK201.out 3).trans rfl; have hcz4_4 : w3.cell? ⟨gb201, 4, none⟩ = some (.int .i64 a0_4) := (blk_cell BK201.out 4).trans rfl; have hcz4_5 : w3.cell? ⟨gb201, 5, none⟩ = some (.int .u8 a0_5) := (blk_cell BK201.out 5).trans rfl; have hcz4_6 : w3.cell? ⟨gb201, 6, none⟩ = some (.int .i64 a0_6) := (blk_cell BK201.out 6).trans rfl; have hcz4_7 : w3.cell? ⟨gb201, 7, none⟩ = some (.string a0_7) := (blk_cell BK201.out 7).trans rfl; have hcz4_8 : w3.cell? ⟨gb201, 8, none⟩ = some (.slice A0_8 l0_8.length c0_8) := (blk_cell BK201.out 8).trans rfl; have hcz4_9 : w3.cell? ⟨gb201, 9, none⟩ = some (.bool a0_9) := (blk_cell BK201.out 9).trans rfl; have hcz4_10 : w3.cell? ⟨gb201, 10, none⟩ = some (.int .i64 a0_10) := (blk_cell BK201.out 10).trans rfl; have hfz4_0 := blk_frozen BK201.out 0; have hfz4_1 := blk_frozen BK201.out 1; have hfz4_2 := blk_frozen BK201.out 2; have hfz4_3 := blk_frozen BK201.out 3; have hfz4_4 := blk_frozen BK201.out 4; have hfz4_5 := blk_frozen BK201.out 5; have hfz4_6 := blk_frozen BK201.out 6; have hfz4_7 := blk_frozen BK201.out 7; have hfz4_8 := blk_frozen BK201.out 8; have hfz4_9 := blk_frozen BK201.out 9; have hfz4_10 := blk_frozen BK201.out 10))
  go_ret
  exact ⟨by first | rfl | (simp [errW_none, errW_some] <;> rfl) | (simp [*, errW_none, errW_some] <;> rfl), by repeat (first | (with_reducible first | exact HB.out | apply below_alloc | apply pw_below_drewN | apply below_drew1 | refine below_set ?_ GE201.out) | exact HB.out)⟩
 ·rw [if_neg c2] at H
  have c2b0 : decide (0 ≤ a0_1) = false := decide_eq_false c2
  clear c2
  obtain rfl := Option.some.inj H
  go_enter Try.func29, Try.ntmps29
  go_wp2_with (first | ((with_reducible refine gate_dst (N := 1) rfl ?_); refine box_event ?hg (N := 1) ?hd (cs := #[.string a0_0, .int .i64 a0_1, .slice A0_2 l0_2.length c0_2, .int .i64 a0_3, .int .i64 a0_4, .int .u8 a0_5, .int .i64 a0_6, .string a0_7, .slice A0_8 l0_8.length c0_8, .bool a0_9, .int .i64 a0_10]) (t := 38) ?hr ?_; (case hd => rfl); (case hg => rfl); (case hr => first | (go_simp; done) | (go_simp; rfl)); intro gb201 hg w5 hbox hb; have n0_ := Aside0.mk (below_step (by repeat (first | (with_reducible first | exact HB.out | apply below_alloc | apply pw_below_drewN | apply below_drew1) | exact HB.out)) hb); have n1_ := Aside0.mk (hbox); have n2_ := Aside0.mk ((by rw [hg]; exact (below_size (by repeat (first | (with_reducible first | exact HB.out | apply below_alloc | apply pw_below_drewN | apply below_drew1) | exact HB.out))) : w.heap.size ≤ gb201)); have n3_ := Aside0.mk ((by rw [hg]; exact (below_size (by repeat (first | (with_reducible first | exact HB.out | apply below_alloc | apply pw_below_drewN | apply below_drew1) | exact HB.out))) : w.heap.size ≤ gb201)); clear HB; have HB := n0_; have BK201 := n1_; have GW201 := n2_; have GE201 := n3_; clear n0_ n1_ n2_ n3_; clear hb hbox hg; have hcz6_0 : w5.cell? ⟨gb201, 0, none⟩ = some (.string a0_0) := (blk_cell BK201.out 0).trans rfl; have hcz6_1 : w5.cell? ⟨gb201, 1, none⟩ = some (.int .i64 a0_1) := (blk_cell BK201.out 1).trans rfl; have hcz6_2 : w5.cell? ⟨gb201, 2, none⟩ = some (.slice A0_2 l0_2.length c0_2) := (blk_cell BK201.out 2).trans rfl; have hcz6_3 : w5.cell? ⟨gb201, 3, none⟩ = some (.int .i64 a0_3) := (blk_cell BK201.out 3).trans rfl; have hcz6_4 : w5.cell? ⟨gb201, 4, none⟩ = some (.int .i64 a0_4) := (blk_cell BK201.out 4).trans rfl; have hcz6_5 : w5.cell? ⟨gb201, 5, none⟩ = some (.int .u8 a0_5) := (blk_cell BK201.out 5).trans rfl; have hcz6_6 : w5.cell? ⟨gb201, 6, none⟩ = some (.int .i64 a0_6) := (blk_cell BK201.out 6).trans rfl; have hcz6_7 : w5.cell? ⟨gb201, 7, none⟩ = some (.string a0_7) := (blk_cell BK201.out 7).trans rfl; have hcz6_8 : w5.cell? ⟨gb201, 8, none⟩ = some (.slice A0_8 l0_8.length c0_8) := (blk_cell BK201.out 8).trans rfl; have hcz6_9 : w5.cell? ⟨gb201, 9, none⟩ = some (.bool a0_9) := (blk_cell BK201.out 9).trans rfl; have hcz6_10 : w5.cell? ⟨gb201, 10, none⟩ = some (.int .i64 a0_10) := (blk_cell BK201.out 10).trans rfl; have hfz6_0 := blk_frozen BK201.out 0; have hfz6_1 := blk_frozen BK201.out 1; have hfz6_2 := blk_frozen BK201.out 2; have hfz6_3 := blk_frozen BK201.out 3; have hfz6_4 := blk_frozen BK201.out 4; have hfz6_5 := blk_frozen BK201.out 5; have hfz6_6 := blk_frozen BK201.out 6; have hfz6_7 := blk_frozen BK201.out 7; have hfz6_8 := blk_frozen BK201.out 8; have hfz6_9 := blk_frozen BK201.out 9; have hfz6_10 := blk_frozen BK201.out 10))
  go_ret
  exact ⟨by first | rfl | (simp [errW_none, errW_some] <;> rfl) | (simp [*, errW_none, errW_some] <;> rfl), by repeat (first | (with_reducible first | exact HB.out | apply below_alloc | apply pw_below_drewN | apply below_drew1 | refine below_set ?_ GE201.out) | exact HB.out)⟩
end Go.Proofs.Ytejeaiplbhgfdaa.Ck
