-- WRITTEN BY given-print.py, trimx.py, shrink.py (wip/tools), programs of this session's, out of the translation
import Derived.Test.YtejeaiplbhgfdaaCkx0
namespace Go.Proofs.Ytejeaiplbhgfdaa.Ck
open Go.RowKit Go.Proofs.YtejeaiplbhgfdaaW.PrintWords Go.Proofs.YtejeaiplbhgfdaaW.PrintLast Go.Proofs.YtejeaiplbhgfdaaW.PrintMore
attribute [local go_sem] max2_int min2_int max_two min_two max_three min_three max_four min_four   -- for this text's walks alone
set_option linter.unusedVariables false
set_option linter.unusedSimpArgs false
mutual
def gristmillref09_Arity.j0 : Nat → Int → Bool → Option (Int)
 | 0, _, _ => none
 | k + 1, x0, x8 => if x8 = true then (some (-1)) else (if x0 < 8 then (some 0) else (if x0 = 13 then (gristmillref09_Arity.j1 k x0 true) else (if x0 = 18 then (gristmillref09_Arity.j1 k x0 true) else (if x0 = 20 then (gristmillref09_Arity.j1 k x0 true) else (if x0 = 23 then (gristmillref09_Arity.j1 k x0 true) else (if x0 = 24 then (gristmillref09_Arity.j1 k x0 true) else (gristmillref09_Arity.j1 k x0 (x0 == 26))))))))
def gristmillref09_Arity.j1 : Nat → Int → Bool → Option (Int)
 | 0, _, _ => none
 | k + 1, x0, x32 => if x32 = true then (some 1) else (if x0 = 19 then (some 3) else (if x0 = 22 then (some 3) else (if x0 = 25 then (some 3) else (some 2))))
end
def gristmillref09_Arity.f (k : Nat) (a0 : Int) : Option (Int) := if a0 < 0 then (gristmillref09_Arity.j0 k a0 true) else (gristmillref09_Arity.j0 k a0 (decide (a0 > 27)))
theorem gristmillref09_Arity.mono_l : ∀ k, (∀ y0 y1, LeO (gristmillref09_Arity.j0 k y0 y1) (gristmillref09_Arity.j0 (k + 1) y0 y1)) ∧ (∀ y0 y1, LeO (gristmillref09_Arity.j1 k y0 y1) (gristmillref09_Arity.j1 (k + 1) y0 y1))
 | 0 => ⟨fun _ _ r h => by simp [gristmillref09_Arity.j0] at h, fun _ _ r h => by simp [gristmillref09_Arity.j1] at h⟩
 | k + 1 => by
  obtain ⟨ih0, ih1⟩ := gristmillref09_Arity.mono_l k
  refine ⟨?_, ?_⟩
  ·intro y0 y1
   unfold gristmillref09_Arity.j0
   repeat' first
   | (with_reducible exact ih0 _ _)
   | (with_reducible exact ih1 _ _)
   | (with_reducible exact LeO.refl _)
   | (with_reducible exact LeO.none _)
   | (with_reducible refine LeO.ite ?_ ?_)
   | (with_reducible refine LeO.bind ?_ (fun _ => ?_))
   | exact ih0 _ _
   | exact ih1 _ _
   | exact LeO.none _
   | refine LeO.ite ?_ ?_
   | refine LeO.bind ?_ (fun _ => ?_)
  ·intro y0 y1
   unfold gristmillref09_Arity.j1
   repeat' first
   | (with_reducible exact ih0 _ _)
   | (with_reducible exact ih1 _ _)
   | (with_reducible exact LeO.refl _)
   | (with_reducible exact LeO.none _)
   | (with_reducible refine LeO.ite ?_ ?_)
   | (with_reducible refine LeO.bind ?_ (fun _ => ?_))
   | exact ih0 _ _
   | exact ih1 _ _
   | exact LeO.none _
   | refine LeO.ite ?_ ?_
   | refine LeO.bind ?_ (fun _ => ?_)
theorem gristmillref09_Arity.mono : ∀ a0 k, LeO (gristmillref09_Arity.f k a0) (gristmillref09_Arity.f (k + 1) a0) := by
 intro a0 k
 obtain ⟨ih0, ih1⟩ := gristmillref09_Arity.mono_l k
 unfold gristmillref09_Arity.f
 repeat' first
  | (with_reducible exact ih0 _ _)
  | (with_reducible exact ih1 _ _)
  | (with_reducible exact LeO.refl _)
  | (with_reducible exact LeO.none _)
  | (with_reducible refine LeO.ite ?_ ?_)
  | (with_reducible refine LeO.bind ?_ (fun _ => ?_))
  | exact ih0 _ _
  | exact ih1 _ _
  | exact LeO.none _
  | refine LeO.ite ?_ ?_
  | refine LeO.bind ?_ (fun _ => ?_)
set_option maxHeartbeats 8000000 in
set_option maxRecDepth 100000 in
theorem gristmillref09_Arity.calls (k : Nat) (a0 : Int) (r : Int) (w : World) (h : gristmillref09_Arity.f k a0 = some r) :
 Calls Try.prog 21 #[.int .i64 a0] w fun e w' => e = .returned (.int .i64 r) ∧ Drawn0 w w' := by
 have H : (if a0 < 0 then (gristmillref09_Arity.j0 k a0 true) else (gristmillref09_Arity.j0 k a0 (decide (a0 > 27)))) = some r := h
 clear h
 have HC2 := Aside0.mk H
 clear H
 go_enter Try.func21, Try.ntmps21
 go_upto_region 1 with (fail)
 go_cut [8] (fun v8 wc => ∃ (kq : Nat) (x8_1 : Bool), v8 = .bool x8_1 ∧ Aside0 (gristmillref09_Arity.j0 kq a0 x8_1 = some r) ∧ Aside0 (kq ≤ k) ∧ Drawn0 w wc)
 case first =>
  have H := HC2.out
  clear HC2
  by_cases c3 : a0 < 0
  ·rw [if_pos c3] at H
   have c3b0 : decide (a0 < 0) = true := decide_eq_true c3
   clear c3
   (first | rw [c3b0] | (simp only [i64_w, i32_w]; rw [c3b0]) | skip)
   have H' := Aside0.mk H
   clear H
   go_wp2
   go_meet
   case rel => exact ⟨_, (true), (by first | rfl | (simp; done) | (simp [*]; done)), H', ⟨by first | omega | exact Nat.le_refl _⟩, by repeat (first | exact Drawn0.refl _ | apply Drawn0.step)⟩
  ·rw [if_neg c3] at H
   have c3b0 : decide (a0 < 0) = false := decide_eq_false c3
   clear c3
   (first | rw [c3b0] | (simp only [i64_w, i32_w]; rw [c3b0]) | skip)
   have H' := Aside0.mk H
   clear H
   go_wp2
   go_meet
   case rel => exact ⟨_, (decide (a0 > 27)), (by first | rfl | (simp; done) | (simp [*]; done)), H', ⟨by first | omega | exact Nat.le_refl _⟩, by repeat (first | exact Drawn0.refl _ | apply Drawn0.step)⟩
 case rest =>
  clear HC2
  (try clear c2); (try clear p2); (try clear c3); (try clear c3b0)
  obtain ⟨kq, x8_1, rfl, HA, HJ1, ⟨mc1, rfl⟩⟩ := hcut
  cases kq with
  | zero => exact absurd HA.out (by simp [gristmillref09_Arity.j0])
  | succ kj1 =>
   have H := HA.out
   clear HA
   simp only [gristmillref09_Arity.j0] at H
   by_cases c4 : x8_1 = true
   ·subst c4
    have H1 : (some (-1)) = some r := by rw [if_pos rfl] at H; exact H
    clear H
    have H := H1
    clear H1
    obtain rfl := Option.some.inj H
    go_wp2
    go_ret
    exact ⟨by first | rfl | (simp; done) | (simp [*]; done), by repeat (first | exact Drawn0.refl _ | apply Drawn0.step)⟩
   ·replace c4 := Bool.eq_false_iff.mpr c4
    subst c4
    have H1 : (if a0 < 8 then (some 0) else (if a0 = 13 then (gristmillref09_Arity.j1 kj1 a0 true) else (if a0 = 18 then (gristmillref09_Arity.j1 kj1 a0 true) else (if a0 = 20 then (gristmillref09_Arity.j1 kj1 a0 true) else (if a0 = 23 then (gristmillref09_Arity.j1 kj1 a0 true) else (if a0 = 24 then (gristmillref09_Arity.j1 kj1 a0 true) else (gristmillref09_Arity.j1 kj1 a0 (a0 == 26)))))))) = some r := by rw [if_neg (show ¬ (false = true) by decide)] at H; exact H
    clear H
    have H := H1
    clear H1
    by_cases c5 : a0 < 8
    ·rw [if_pos c5] at H
     have c5b0 : decide (a0 < 8) = true := decide_eq_true c5
     clear c5
     obtain rfl := Option.some.inj H
     go_wp2
     go_ret
     exact ⟨by first | rfl | (simp; done) | (simp [*]; done), by repeat (first | exact Drawn0.refl _ | apply Drawn0.step)⟩
    ·rw [if_neg c5] at H
     have c5b0 : decide (a0 < 8) = false := decide_eq_false c5
     clear c5
     have HC6 := Aside0.mk H
     clear H
     go_upto_region 5 with (fail)
     go_cut [32] (fun v32 wc => ∃ (kq : Nat) (x32_5 : Bool), v32 = .bool x32_5 ∧ Aside0 (gristmillref09_Arity.j1 kq a0 x32_5 = some r) ∧ Aside0 (kq ≤ kj1) ∧ Drawn0 w wc)
     case first =>
      have H := HC6.out
      clear HC6
      by_cases c7 : a0 = 13
      ·rw [if_pos c7] at H
       have c7b0 : (a0 == 13) = true := beq_iff_eq.mpr c7
       have c7b1 : (a0 != 13) = false := bne_eq_false_iff_eq.mpr c7
       clear c7
       (first | rw [c7b0] | (simp only [i64_w, i32_w]; rw [c7b0]) | skip)
       have H' := Aside0.mk H
       clear H
       go_wp2
       go_meet
       case rel => exact ⟨_, (true), (by first | rfl | (simp; done) | (simp [*]; done)), H', ⟨by have := HJ1.out; first | omega | exact Nat.le_refl _⟩, by repeat (first | exact Drawn0.refl _ | apply Drawn0.step)⟩
      ·rw [if_neg c7] at H
       have c7b0 : (a0 == 13) = false := beq_eq_false_iff_ne.mpr c7
       have c7b1 : (a0 != 13) = true := bne_iff_ne.mpr c7
       (first | rw [c7b0] | (simp only [i64_w, i32_w]; rw [c7b0]) | skip)
       by_cases c8 : a0 = 18
       ·rw [if_pos c8] at H
        have c8b0 : (a0 == 18) = true := beq_iff_eq.mpr c8
        have c8b1 : (a0 != 18) = false := bne_eq_false_iff_eq.mpr c8
        clear c8
        have H' := Aside0.mk H
        clear H
        go_wp2
        go_meet
        case rel => exact ⟨_, (true), (by first | rfl | (simp; done) | (simp [*]; done)), H', ⟨by have := HJ1.out; first | omega | exact Nat.le_refl _⟩, by repeat (first | exact Drawn0.refl _ | apply Drawn0.step)⟩
       ·rw [if_neg c8] at H
        have c8b0 : (a0 == 18) = false := beq_eq_false_iff_ne.mpr c8
        have c8b1 : (a0 != 18) = true := bne_iff_ne.mpr c8
        by_cases c9 : a0 = 20
        ·rw [if_pos c9] at H
         have c9b0 : (a0 == 20) = true := beq_iff_eq.mpr c9
         have c9b1 : (a0 != 20) = false := bne_eq_false_iff_eq.mpr c9
         clear c9
         have H' := Aside0.mk H
         clear H
         go_wp2
         go_meet
         case rel => exact ⟨_, (true), (by first | rfl | (simp; done) | (simp [*]; done)), H', ⟨by have := HJ1.out; first | omega | exact Nat.le_refl _⟩, by repeat (first | exact Drawn0.refl _ | apply Drawn0.step)⟩
        ·rw [if_neg c9] at H
         have c9b0 : (a0 == 20) = false := beq_eq_false_iff_ne.mpr c9
         have c9b1 : (a0 != 20) = true := bne_iff_ne.mpr c9
         by_cases c10 : a0 = 23
         ·rw [if_pos c10] at H
          have c10b0 : (a0 == 23) = true := beq_iff_eq.mpr c10
          have c10b1 : (a0 != 23) = false := bne_eq_false_iff_eq.mpr c10
          clear c10
          have H' := Aside0.mk H
          clear H
          go_wp2
          go_meet
          case rel => exact ⟨_, (true), (by first | rfl | (simp; done) | (simp [*]; done)), H', ⟨by have := HJ1.out; first | omega | exact Nat.le_refl _⟩, by repeat (first | exact Drawn0.refl _ | apply Drawn0.step)⟩
         ·rw [if_neg c10] at H
          have c10b0 : (a0 == 23) = false := beq_eq_false_iff_ne.mpr c10
          have c10b1 : (a0 != 23) = true := bne_iff_ne.mpr c10
          by_cases c11 : a0 = 24
          ·rw [if_pos c11] at H
           have c11b0 : (a0 == 24) = true := beq_iff_eq.mpr c11
           have c11b1 : (a0 != 24) = false := bne_eq_false_iff_eq.mpr c11
           clear c11
           have H' := Aside0.mk H
           clear H
           go_wp2
           go_meet
           case rel => exact ⟨_, (true), (by first | rfl | (simp; done) | (simp [*]; done)), H', ⟨by have := HJ1.out; first | omega | exact Nat.le_refl _⟩, by repeat (first | exact Drawn0.refl _ | apply Drawn0.step)⟩
          ·rw [if_neg c11] at H
           have c11b0 : (a0 == 24) = false := beq_eq_false_iff_ne.mpr c11
           have c11b1 : (a0 != 24) = true := bne_iff_ne.mpr c11
           have H' := Aside0.mk H
           clear H
           go_wp2
           go_meet
           case rel => exact ⟨_, ((a0 == 26)), (by first | rfl | (simp; done) | (simp [*]; done)), H', ⟨by have := HJ1.out; first | omega | exact Nat.le_refl _⟩, by repeat (first | exact Drawn0.refl _ | apply Drawn0.step)⟩
     case rest =>
      clear HC6
      (try clear c1); (try clear c2); (try clear p2); (try clear c3); (try clear c3b0); (try clear c4); (try clear c5); (try clear c5b0); (try clear c7); (try clear c7b0); (try clear c7b1); (try clear c8); (try clear c8b0); (try clear c8b1); (try clear c9); (try clear c9b0); (try clear c9b1); (try clear c10); (try clear c10b0); (try clear c10b1); (try clear c11); (try clear c11b0); (try clear c11b1); (try clear p2)
      obtain ⟨kq, x32_5, rfl, HA, HJ5, ⟨mc5, rfl⟩⟩ := hcut
      cases kq with
      | zero => exact absurd HA.out (by simp [gristmillref09_Arity.j1])
      | succ kj5 =>
       have H := HA.out
       clear HA
       simp only [gristmillref09_Arity.j1] at H
       by_cases c12 : x32_5 = true
       ·subst c12
        have H1 : (some 1) = some r := by rw [if_pos rfl] at H; exact H
        clear H
        have H := H1
        clear H1
        obtain rfl := Option.some.inj H
        go_wp2
        go_ret
        exact ⟨by first | rfl | (simp; done) | (simp [*]; done), by repeat (first | exact Drawn0.refl _ | apply Drawn0.step)⟩
       ·replace c12 := Bool.eq_false_iff.mpr c12
        subst c12
        have H1 : (if a0 = 19 then (some 3) else (if a0 = 22 then (some 3) else (if a0 = 25 then (some 3) else (some 2)))) = some r := by rw [if_neg (show ¬ (false = true) by decide)] at H; exact H
        clear H
        have H := H1
        clear H1
        by_cases c13 : a0 = 19
        ·rw [if_pos c13] at H
         have c13b0 : (a0 == 19) = true := beq_iff_eq.mpr c13
         have c13b1 : (a0 != 19) = false := bne_eq_false_iff_eq.mpr c13
         clear c13
         obtain rfl := Option.some.inj H
         go_wp2
         go_ret
         exact ⟨by first | rfl | (simp; done) | (simp [*]; done), by repeat (first | exact Drawn0.refl _ | apply Drawn0.step)⟩
        ·rw [if_neg c13] at H
         have c13b0 : (a0 == 19) = false := beq_eq_false_iff_ne.mpr c13
         have c13b1 : (a0 != 19) = true := bne_iff_ne.mpr c13
         by_cases c14 : a0 = 22
         ·rw [if_pos c14] at H
          have c14b0 : (a0 == 22) = true := beq_iff_eq.mpr c14
          have c14b1 : (a0 != 22) = false := bne_eq_false_iff_eq.mpr c14
          clear c14
          obtain rfl := Option.some.inj H
          go_wp2
          go_ret
          exact ⟨by first | rfl | (simp; done) | (simp [*]; done), by repeat (first | exact Drawn0.refl _ | apply Drawn0.step)⟩
         ·rw [if_neg c14] at H
          have c14b0 : (a0 == 22) = false := beq_eq_false_iff_ne.mpr c14
          have c14b1 : (a0 != 22) = true := bne_iff_ne.mpr c14
          by_cases c15 : a0 = 25
          ·rw [if_pos c15] at H
           have c15b0 : (a0 == 25) = true := beq_iff_eq.mpr c15
           have c15b1 : (a0 != 25) = false := bne_eq_false_iff_eq.mpr c15
           clear c15
           obtain rfl := Option.some.inj H
           go_wp2
           go_ret
           exact ⟨by first | rfl | (simp; done) | (simp [*]; done), by repeat (first | exact Drawn0.refl _ | apply Drawn0.step)⟩
          ·rw [if_neg c15] at H
           have c15b0 : (a0 == 25) = false := beq_eq_false_iff_ne.mpr c15
           have c15b1 : (a0 != 25) = true := bne_iff_ne.mpr c15
           obtain rfl := Option.some.inj H
           go_wp2
           go_ret
           exact ⟨by first | rfl | (simp; done) | (simp [*]; done), by repeat (first | exact Drawn0.refl _ | apply Drawn0.step)⟩
mutual
def gristmillref12_Asks.j0 : Nat → Int → Bool → Option (ByteArray)
 | 0, _, _ => none
 | k + 1, x3, x4 => if x4 = true then (some (⟨#[110, 110]⟩ : ByteArray)) else (if x3 = 14 then (gristmillref12_Asks.j1 k x3 (x3 == 14)) else (gristmillref12_Asks.j1 k x3 (x3 == 15)))
def gristmillref12_Asks.j1 : Nat → Int → Bool → Option (ByteArray)
 | 0, _, _ => none
 | k + 1, x3, x7 => if x7 = true then (some (⟨#[107, 107, 110]⟩ : ByteArray)) else (if x3 = 19 then (some (⟨#[110, 107, 107, 107]⟩ : ByteArray)) else (if x3 = 20 then (gristmillref12_Asks.j2 k x3 (x3 == 20)) else (gristmillref12_Asks.j2 k x3 (x3 == 23))))
def gristmillref12_Asks.j2 : Nat → Int → Bool → Option (ByteArray)
 | 0, _, _ => none
 | k + 1, x3, x12 => if x12 = true then (some (⟨#[115, 110]⟩ : ByteArray)) else (if x3 = 21 then (some (⟨#[115, 115, 115]⟩ : ByteArray)) else (if x3 = 22 then (some (⟨#[115, 110, 110, 115]⟩ : ByteArray)) else (if x3 = 24 then (some (⟨#[110, 115]⟩ : ByteArray)) else (if x3 = 25 then (some (⟨#[115, 115, 110, 115]⟩ : ByteArray)) else (if x3 = 26 then (some (⟨#[115, 115]⟩ : ByteArray)) else (if x3 = 27 then (some (⟨#[115, 115, 110]⟩ : ByteArray)) else (some (⟨#[110, 110, 110]⟩ : ByteArray))))))))
end
def gristmillref12_Asks.f (k : Nat) (a0 : Int) : Option (ByteArray) := if a0 = 13 then (gristmillref12_Asks.j0 k a0 (a0 == 13)) else (gristmillref12_Asks.j0 k a0 (a0 == 18))
theorem gristmillref12_Asks.mono_l : ∀ k, (∀ y0 y1, LeO (gristmillref12_Asks.j0 k y0 y1) (gristmillref12_Asks.j0 (k + 1) y0 y1)) ∧ (∀ y0 y1, LeO (gristmillref12_Asks.j1 k y0 y1) (gristmillref12_Asks.j1 (k + 1) y0 y1)) ∧ (∀ y0 y1, LeO (gristmillref12_Asks.j2 k y0 y1) (gristmillref12_Asks.j2 (k + 1) y0 y1))
 | 0 => ⟨fun _ _ r h => by simp [gristmillref12_Asks.j0] at h, fun _ _ r h => by simp [gristmillref12_Asks.j1] at h, fun _ _ r h => by simp [gristmillref12_Asks.j2] at h⟩
 | k + 1 => by
  obtain ⟨ih0, ih1, ih2⟩ := gristmillref12_Asks.mono_l k
  refine ⟨?_, ?_, ?_⟩
  ·intro y0 y1
   unfold gristmillref12_Asks.j0
   repeat' first
   | (with_reducible exact ih0 _ _)
   | (with_reducible exact ih1 _ _)
   | (with_reducible exact ih2 _ _)
   | (with_reducible exact LeO.refl _)
   | (with_reducible exact LeO.none _)
   | (with_reducible refine LeO.ite ?_ ?_)
   | (with_reducible refine LeO.bind ?_ (fun _ => ?_))
   | exact ih0 _ _
   | exact ih1 _ _
   | exact ih2 _ _
   | exact LeO.none _
   | refine LeO.ite ?_ ?_
   | refine LeO.bind ?_ (fun _ => ?_)
  ·intro y0 y1
   unfold gristmillref12_Asks.j1
   repeat' first
   | (with_reducible exact ih0 _ _)
   | (with_reducible exact ih1 _ _)
   | (with_reducible exact ih2 _ _)
   | (with_reducible exact LeO.refl _)
   | (with_reducible exact LeO.none _)
   | (with_reducible refine LeO.ite ?_ ?_)
   | (with_reducible refine LeO.bind ?_ (fun _ => ?_))
   | exact ih0 _ _
   | exact ih1 _ _
   | exact ih2 _ _
   | exact LeO.none _
   | refine LeO.ite ?_ ?_
   | refine LeO.bind ?_ (fun _ => ?_)
  ·intro y0 y1
   unfold gristmillref12_Asks.j2
   repeat' first
   | (with_reducible exact ih0 _ _)
   | (with_reducible exact ih1 _ _)
   | (with_reducible exact ih2 _ _)
   | (with_reducible exact LeO.refl _)
   | (with_reducible exact LeO.none _)
   | (with_reducible refine LeO.ite ?_ ?_)
   | (with_reducible refine LeO.bind ?_ (fun _ => ?_))
   | exact ih0 _ _
   | exact ih1 _ _
   | exact ih2 _ _
   | exact LeO.none _
   | refine LeO.ite ?_ ?_
   | refine LeO.bind ?_ (fun _ => ?_)
theorem gristmillref12_Asks.mono : ∀ a0 k, LeO (gristmillref12_Asks.f k a0) (gristmillref12_Asks.f (k + 1) a0) := by
 intro a0 k
 obtain ⟨ih0, ih1, ih2⟩ := gristmillref12_Asks.mono_l k
 unfold gristmillref12_Asks.f
 repeat' first
  | (with_reducible exact ih0 _ _)
  | (with_reducible exact ih1 _ _)
  | (with_reducible exact ih2 _ _)
  | (with_reducible exact LeO.refl _)
  | (with_reducible exact LeO.none _)
  | (with_reducible refine LeO.ite ?_ ?_)
  | (with_reducible refine LeO.bind ?_ (fun _ => ?_))
  | exact ih0 _ _
  | exact ih1 _ _
  | exact ih2 _ _
  | exact LeO.none _
  | refine LeO.ite ?_ ?_
  | refine LeO.bind ?_ (fun _ => ?_)
set_option maxHeartbeats 8000000 in
set_option maxRecDepth 100000 in
theorem gristmillref12_Asks.calls (k : Nat) (a0 : Int) (r : ByteArray) (w : World) (h : gristmillref12_Asks.f k a0 = some r) :
 Calls Try.prog 22 #[.int .i64 a0] w fun e w' => e = .returned (.string r) ∧ Drawn0 w w' := by
 have H : (if a0 = 13 then (gristmillref12_Asks.j0 k a0 (a0 == 13)) else (gristmillref12_Asks.j0 k a0 (a0 == 18))) = some r := h
 clear h
 have HC2 := Aside0.mk H
 clear H
 go_enter Try.func22, Try.ntmps22
 go_upto_if 4 with (fail)
 go_cut [4] (fun v4 wc => ∃ (kq : Nat) (x4_1 : Bool), v4 = .bool x4_1 ∧ Aside0 (gristmillref12_Asks.j0 kq a0 x4_1 = some r) ∧ Aside0 (kq ≤ k) ∧ Drawn0 w wc)
 case first =>
  have H := HC2.out
  clear HC2
  by_cases c3 : a0 = 13
  ·rw [if_pos c3] at H
   have c3b0 : (a0 == 13) = true := beq_iff_eq.mpr c3
   have c3b1 : (a0 != 13) = false := bne_eq_false_iff_eq.mpr c3
   clear c3
   (first | rw [c3b0] | (simp only [i64_w, i32_w]; rw [c3b0]) | skip)
   have H' := Aside0.mk H
   clear H
   go_wp2
   go_meet
   case rel => exact ⟨_, ((a0 == 13)), (by first | rfl | (simp; done) | (simp [*]; done)), H', ⟨by first | omega | exact Nat.le_refl _⟩, by repeat (first | exact Drawn0.refl _ | apply Drawn0.step)⟩
  ·rw [if_neg c3] at H
   have c3b0 : (a0 == 13) = false := beq_eq_false_iff_ne.mpr c3
   have c3b1 : (a0 != 13) = true := bne_iff_ne.mpr c3
   (first | rw [c3b0] | (simp only [i64_w, i32_w]; rw [c3b0]) | skip)
   have H' := Aside0.mk H
   clear H
   go_wp2
   go_meet
   case rel => exact ⟨_, ((a0 == 18)), (by first | rfl | (simp; done) | (simp [*]; done)), H', ⟨by first | omega | exact Nat.le_refl _⟩, by repeat (first | exact Drawn0.refl _ | apply Drawn0.step)⟩
 case rest =>
  clear HC2
  (try clear c2); (try clear p2); (try clear c3); (try clear c3b0); (try clear c3b1)
  obtain ⟨kq, x4_1, rfl, HA, HJ1, ⟨mc1, rfl⟩⟩ := hcut
  cases kq with
  | zero => exact absurd HA.out (by simp [gristmillref12_Asks.j0])
  | succ kj1 =>
   have H := HA.out
   clear HA
   simp only [gristmillref12_Asks.j0] at H
   by_cases c4 : x4_1 = true
   ·subst c4
    have H1 : (some (⟨#[110, 110]⟩ : ByteArray)) = some r := by rw [if_pos rfl] at H; exact H
    clear H
    have H := H1
    clear H1
    obtain rfl := Option.some.inj H
    go_wp2
    go_ret
    exact ⟨by first | rfl | (simp; done) | (simp [*]; done), by repeat (first | exact Drawn0.refl _ | apply Drawn0.step)⟩
   ·replace c4 := Bool.eq_false_iff.mpr c4
    subst c4
    have H1 : (if a0 = 14 then (gristmillref12_Asks.j1 kj1 a0 (a0 == 14)) else (gristmillref12_Asks.j1 kj1 a0 (a0 == 15))) = some r := by rw [if_neg (show ¬ (false = true) by decide)] at H; exact H
    clear H
    have H := H1
    clear H1
    have HC5 := Aside0.mk H
    clear H
    go_upto_if 7 with (fail)
    go_cut [7] (fun v7 wc => ∃ (kq : Nat) (x7_4 : Bool), v7 = .bool x7_4 ∧ Aside0 (gristmillref12_Asks.j1 kq a0 x7_4 = some r) ∧ Aside0 (kq ≤ kj1) ∧ Drawn0 w wc)
    case first =>
     have H := HC5.out
     clear HC5
     by_cases c6 : a0 = 14
     ·rw [if_pos c6] at H
      have c6b0 : (a0 == 14) = true := beq_iff_eq.mpr c6
      have c6b1 : (a0 != 14) = false := bne_eq_false_iff_eq.mpr c6
      clear c6
      (first | rw [c6b0] | (simp only [i64_w, i32_w]; rw [c6b0]) | skip)
      have H' := Aside0.mk H
      clear H
      go_wp2
      go_meet
      case rel => exact ⟨_, ((a0 == 14)), (by first | rfl | (simp; done) | (simp [*]; done)), H', ⟨by have := HJ1.out; first | omega | exact Nat.le_refl _⟩, by repeat (first | exact Drawn0.refl _ | apply Drawn0.step)⟩
     ·rw [if_neg c6] at H
      have c6b0 : (a0 == 14) = false := beq_eq_false_iff_ne.mpr c6
      have c6b1 : (a0 != 14) = true := bne_iff_ne.mpr c6
      (first | rw [c6b0] | (simp only [i64_w, i32_w]; rw [c6b0]) | skip)
      have H' := Aside0.mk H
      clear H
      go_wp2
      go_meet
      case rel => exact ⟨_, ((a0 == 15)), (by first | rfl | (simp; done) | (simp [*]; done)), H', ⟨by have := HJ1.out; first | omega | exact Nat.le_refl _⟩, by repeat (first | exact Drawn0.refl _ | apply Drawn0.step)⟩
    case rest =>
     clear HC5
     (try clear c1); (try clear c2); (try clear p2); (try clear c3); (try clear c3b0); (try clear c3b1); (try clear c4); (try clear c6); (try clear c6b0); (try clear c6b1); (try clear p2)
     obtain ⟨kq, x7_4, rfl, HA, HJ4, ⟨mc4, rfl⟩⟩ := hcut
     cases kq with
     | zero => exact absurd HA.out (by simp [gristmillref12_Asks.j1])
     | succ kj4 =>
      have H := HA.out
      clear HA
      simp only [gristmillref12_Asks.j1] at H
      by_cases c7 : x7_4 = true
      ·subst c7
       have H1 : (some (⟨#[107, 107, 110]⟩ : ByteArray)) = some r := by rw [if_pos rfl] at H; exact H
       clear H
       have H := H1
       clear H1
       obtain rfl := Option.some.inj H
       go_wp2
       go_ret
       exact ⟨by first | rfl | (simp; done) | (simp [*]; done), by repeat (first | exact Drawn0.refl _ | apply Drawn0.step)⟩
      ·replace c7 := Bool.eq_false_iff.mpr c7
       subst c7
       have H1 : (if a0 = 19 then (some (⟨#[110, 107, 107, 107]⟩ : ByteArray)) else (if a0 = 20 then (gristmillref12_Asks.j2 kj4 a0 (a0 == 20)) else (gristmillref12_Asks.j2 kj4 a0 (a0 == 23)))) = some r := by rw [if_neg (show ¬ (false = true) by decide)] at H; exact H
       clear H
       have H := H1
       clear H1
       by_cases c8 : a0 = 19
       ·rw [if_pos c8] at H
        have c8b0 : (a0 == 19) = true := beq_iff_eq.mpr c8
        have c8b1 : (a0 != 19) = false := bne_eq_false_iff_eq.mpr c8
        clear c8
        obtain rfl := Option.some.inj H
        go_wp2
        go_ret
        exact ⟨by first | rfl | (simp; done) | (simp [*]; done), by repeat (first | exact Drawn0.refl _ | apply Drawn0.step)⟩
       ·rw [if_neg c8] at H
        have c8b0 : (a0 == 19) = false := beq_eq_false_iff_ne.mpr c8
        have c8b1 : (a0 != 19) = true := bne_iff_ne.mpr c8
        have HC9 := Aside0.mk H
        clear H
        go_upto_if 12 with (fail)
        go_cut [12] (fun v12 wc => ∃ (kq : Nat) (x12_8 : Bool), v12 = .bool x12_8 ∧ Aside0 (gristmillref12_Asks.j2 kq a0 x12_8 = some r) ∧ Aside0 (kq ≤ kj4) ∧ Drawn0 w wc)
        case first =>
         have H := HC9.out
         clear HC9
         by_cases c10 : a0 = 20
         ·rw [if_pos c10] at H
          have c10b0 : (a0 == 20) = true := beq_iff_eq.mpr c10
          have c10b1 : (a0 != 20) = false := bne_eq_false_iff_eq.mpr c10
          clear c10
          (first | rw [c10b0] | (simp only [i64_w, i32_w]; rw [c10b0]) | skip)
          have H' := Aside0.mk H
          clear H
          go_wp2
          go_meet
          case rel => exact ⟨_, ((a0 == 20)), (by first | rfl | (simp; done) | (simp [*]; done)), H', ⟨by have := HJ1.out; have := HJ4.out; first | omega | exact Nat.le_refl _⟩, by repeat (first | exact Drawn0.refl _ | apply Drawn0.step)⟩
         ·rw [if_neg c10] at H
          have c10b0 : (a0 == 20) = false := beq_eq_false_iff_ne.mpr c10
          have c10b1 : (a0 != 20) = true := bne_iff_ne.mpr c10
          (first | rw [c10b0] | (simp only [i64_w, i32_w]; rw [c10b0]) | skip)
          have H' := Aside0.mk H
          clear H
          go_wp2
          go_meet
          case rel => exact ⟨_, ((a0 == 23)), (by first | rfl | (simp; done) | (simp [*]; done)), H', ⟨by have := HJ1.out; have := HJ4.out; first | omega | exact Nat.le_refl _⟩, by repeat (first | exact Drawn0.refl _ | apply Drawn0.step)⟩
        case rest =>
         clear HC9
         (try clear c1); (try clear c2); (try clear p2); (try clear c3); (try clear c3b0); (try clear c3b1); (try clear c4); (try clear c6); (try clear c6b0); (try clear c6b1); (try clear c7); (try clear c8); (try clear c8b0); (try clear c8b1); (try clear c10); (try clear c10b0); (try clear c10b1); (try clear p2)
         obtain ⟨kq, x12_8, rfl, HA, HJ8, ⟨mc8, rfl⟩⟩ := hcut
         cases kq with
         | zero => exact absurd HA.out (by simp [gristmillref12_Asks.j2])
         | succ kj8 =>
          have H := HA.out
          clear HA
          simp only [gristmillref12_Asks.j2] at H
          by_cases c11 : x12_8 = true
          ·subst c11
           have H1 : (some (⟨#[115, 110]⟩ : ByteArray)) = some r := by rw [if_pos rfl] at H; exact H
           clear H
           have H := H1
           clear H1
           obtain rfl := Option.some.inj H
           go_wp2
           go_ret
           exact ⟨by first | rfl | (simp; done) | (simp [*]; done), by repeat (first | exact Drawn0.refl _ | apply Drawn0.step)⟩
          ·replace c11 := Bool.eq_false_iff.mpr c11
           subst c11
           have H1 : (if a0 = 21 then (some (⟨#[115, 115, 115]⟩ : ByteArray)) else (if a0 = 22 then (some (⟨#[115, 110, 110, 115]⟩ : ByteArray)) else (if a0 = 24 then (some (⟨#[110, 115]⟩ : ByteArray)) else (if a0 = 25 then (some (⟨#[115, 115, 110, 115]⟩ : ByteArray)) else (if a0 = 26 then (some (⟨#[115, 115]⟩ : ByteArray)) else (if a0 = 27 then (some (⟨#[115, 115, 110]⟩ : ByteArray)) else (some (⟨#[110, 110, 110]⟩ : ByteArray)))))))) = some r := by rw [if_neg (show ¬ (false = true) by decide)] at H; exact H
           clear H
           have H := H1
           clear H1
           by_cases c12 : a0 = 21
           ·rw [if_pos c12] at H
            have c12b0 : (a0 == 21) = true := beq_iff_eq.mpr c12
            have c12b1 : (a0 != 21) = false := bne_eq_false_iff_eq.mpr c12
            clear c12
            obtain rfl := Option.some.inj H
            go_wp2
            go_ret
            exact ⟨by first | rfl | (simp; done) | (simp [*]; done), by repeat (first | exact Drawn0.refl _ | apply Drawn0.step)⟩
           ·rw [if_neg c12] at H
            have c12b0 : (a0 == 21) = false := beq_eq_false_iff_ne.mpr c12
            have c12b1 : (a0 != 21) = true := bne_iff_ne.mpr c12
            by_cases c13 : a0 = 22
            ·rw [if_pos c13] at H
             have c13b0 : (a0 == 22) = true := beq_iff_eq.mpr c13
             have c13b1 : (a0 != 22) = false := bne_eq_false_iff_eq.mpr c13
             clear c13
             obtain rfl := Option.some.inj H
             go_wp2
             go_ret
             exact ⟨by first | rfl | (simp; done) | (simp [*]; done), by repeat (first | exact Drawn0.refl _ | apply Drawn0.step)⟩
            ·rw [if_neg c13] at H
             have c13b0 : (a0 == 22) = false := beq_eq_false_iff_ne.mpr c13
             have c13b1 : (a0 != 22) = true := bne_iff_ne.mpr c13
             by_cases c14 : a0 = 24
             ·rw [if_pos c14] at H
              have c14b0 : (a0 == 24) = true := beq_iff_eq.mpr c14
              have c14b1 : (a0 != 24) = false := bne_eq_false_iff_eq.mpr c14
              clear c14
              obtain rfl := Option.some.inj H
              go_wp2
              go_ret
              exact ⟨by first | rfl | (simp; done) | (simp [*]; done), by repeat (first | exact Drawn0.refl _ | apply Drawn0.step)⟩
             ·rw [if_neg c14] at H
              have c14b0 : (a0 == 24) = false := beq_eq_false_iff_ne.mpr c14
              have c14b1 : (a0 != 24) = true := bne_iff_ne.mpr c14
              by_cases c15 : a0 = 25
              ·rw [if_pos c15] at H
               have c15b0 : (a0 == 25) = true := beq_iff_eq.mpr c15
               have c15b1 : (a0 != 25) = false := bne_eq_false_iff_eq.mpr c15
               clear c15
               obtain rfl := Option.some.inj H
               go_wp2
               go_ret
               exact ⟨by first | rfl | (simp; done) | (simp [*]; done), by repeat (first | exact Drawn0.refl _ | apply Drawn0.step)⟩
              ·rw [if_neg c15] at H
               have c15b0 : (a0 == 25) = false := beq_eq_false_iff_ne.mpr c15
               have c15b1 : (a0 != 25) = true := bne_iff_ne.mpr c15
               by_cases c16 : a0 = 26
               ·rw [if_pos c16] at H
                have c16b0 : (a0 == 26) = true := beq_iff_eq.mpr c16
                have c16b1 : (a0 != 26) = false := bne_eq_false_iff_eq.mpr c16
                clear c16
                obtain rfl := Option.some.inj H
                go_wp2
                go_ret
                exact ⟨by first | rfl | (simp; done) | (simp [*]; done), by repeat (first | exact Drawn0.refl _ | apply Drawn0.step)⟩
               ·rw [if_neg c16] at H
                have c16b0 : (a0 == 26) = false := beq_eq_false_iff_ne.mpr c16
                have c16b1 : (a0 != 26) = true := bne_iff_ne.mpr c16
                by_cases c17 : a0 = 27
                ·rw [if_pos c17] at H
                 have c17b0 : (a0 == 27) = true := beq_iff_eq.mpr c17
                 have c17b1 : (a0 != 27) = false := bne_eq_false_iff_eq.mpr c17
                 clear c17
                 obtain rfl := Option.some.inj H
                 go_wp2
                 go_ret
                 exact ⟨by first | rfl | (simp; done) | (simp [*]; done), by repeat (first | exact Drawn0.refl _ | apply Drawn0.step)⟩
                ·rw [if_neg c17] at H
                 have c17b0 : (a0 == 27) = false := beq_eq_false_iff_ne.mpr c17
                 have c17b1 : (a0 != 27) = true := bne_iff_ne.mpr c17
                 obtain rfl := Option.some.inj H
                 go_wp2
                 go_ret
                 exact ⟨by first | rfl | (simp; done) | (simp [*]; done), by repeat (first | exact Drawn0.refl _ | apply Drawn0.step)⟩
end Go.Proofs.Ytejeaiplbhgfdaa.Ck
