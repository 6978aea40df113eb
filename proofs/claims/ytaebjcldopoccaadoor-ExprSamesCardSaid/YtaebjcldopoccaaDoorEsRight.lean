/- What expr.Right hands back, by its walk. -/
import Derived.Test.YtaebjcldopoccaaDoorEsIter
import Derived.Deep.QuietTactic
import Derived.BigQuiet
import Derived.Sort.CutIn
namespace Go.Proofs.YtaebjcldopoccaaDoor.EsIter
open Go.RowKit Go.Shelf Go.Proofs.YtaebjcldopoccaaDoorW.PrintWords Go.Proofs.YtaebjcldopoccaaDoor.Es
attribute [local go_sem] Oper.semAt_some


/-! ### what is looked for in a part -/
def arityS (op : Int) : Int :=
  if op < 0 ∨ 27 < op then -1 else if op < 8 then 0 else if op = 13 ∨ op = 18 ∨ op = 20 ∨ op = 23 ∨ op = 24 ∨ op = 26 then 1 else if op = 19 ∨ op = 22 ∨ op = 25 then 3 else 2
theorem op_cases {op : Int} (h0 : 0 ≤ op) (h1 : op ≤ 27) : op = 0 ∨ op = 1 ∨ op = 2 ∨ op = 3 ∨ op = 4 ∨ op = 5 ∨ op = 6 ∨ op = 7 ∨ op = 8 ∨ op = 9 ∨ op = 10 ∨ op = 11 ∨ op = 12 ∨ op = 13 ∨ op = 14 ∨ op = 15 ∨ op = 16 ∨ op = 17 ∨ op = 18 ∨ op = 19 ∨ op = 20 ∨ op = 21 ∨ op = 22 ∨ op = 23 ∨ op = 24 ∨ op = 25 ∨ op = 26 ∨ op = 27 := by omega
theorem arity_impl (op : Int) : Ev (fun k => expr_Arity.f k op) (arityS op) := by
  by_cases h : 0 ≤ op ∧ op ≤ 27
  · refine Ev.of (fun k => expr_Arity.mono op k) (k := 3) ?_
    rcases op_cases h.1 h.2 with h | h | h | h | h | h | h | h | h | h | h | h | h | h | h | h | h | h | h | h | h | h | h | h | h | h | h | h <;> subst h <;> rfl
  · refine Ev.congr (f := fun _ => some (arityS op)) (fun k => ?_) (Ev.now _)
    have ha : arityS op = -1 := by unfold arityS; rw [if_pos (by omega)]
    rw [ha]
    show (expr_known.f op).bind _ = _
    have hk : expr_known.f op = some false := by
      unfold expr_known.f
      by_cases h0 : op ≥ 0
      · rw [if_pos h0, decide_eq_false (by omega)]
      · rw [if_neg h0]
    rw [hk]
    rfl
theorem arity_calls (op : Int) (W : World) : Calls Tryd.prog 10 #[.int .i64 op] W fun e W' => e = .returned (.int .i64 (arityS op)) ∧ ∃ q, W' = W.drewN q := by
  obtain ⟨k, h⟩ := (arity_impl op).rounds
  exact (expr_Arity.calls k op _ W h).mono fun e W' ⟨he, hd⟩ => ⟨he, hd.out⟩
/-- As many arguments as it must have? -/
def okB (y : S35) : Bool := arityS y.f0 == (y.f2.length : Int)
/-- A text that is too long? -/
def wideB (y : S35) : Bool := y.f0 == 0 && (y.f1.f0 != 0 && decide ((65536 : Int) < (y.f1.f2.size : Int)))
def errOf (l : List S35) : Int := if l.any wideB then 5 else 0
theorem errOf_snoc (l : List S35) (y : S35) : errOf (l ++ [y]) = if wideB y then 5 else errOf l := by
  unfold errOf
  rw [List.any_append]
  cases l.any wideB <;> cases h : wideB y <;> simp [h]
def endS (x : S35) : Int := if (preS x).all okB then errOf (preS x) else 3
def rightS (x : S35) (dp : Int) : Int := if 200 < (preS x).length then 9 else if 20 < dp then 8 else endS x
theorem keeps_drewN (W : World) (n : Nat) : KeepsOthers W (W.drewN n) := ⟨Nat.le_refl _, fun _ _ h _ => h⟩

theorem boxed_below {W W' : World} {B : Nat} {t : TypeId} {v : Value} (h : Boxed W B t v) (hb : Below W.heap.size W W') : Boxed W' B t v := by
  unfold Boxed at h ⊢
  exact (hb.block B (Array.getElem?_eq_some_iff.1 h).1).trans h
theorem box5_below {W W' : World} {B : Nat} {n : Nd} (h : Box5 W B n) (hb : Below W.heap.size W W') : Box5 W' B n := h.below hb h.lt

set_option maxRecDepth 100000 in
set_option maxHeartbeats 2000000 in
theorem Right_many (d : Nd) (w : World) (hC : Kd.C k35 w d.A d.x.f2.length d.x.f2) (hsz : (preS d.x).length < 9223372036854775807) (hm : 200 < (preS d.x).length) :
    Calls Tryd.prog 24 #[.agg #[.int .i64 d.x.f0, .int .u8 d.x.f1.f0, .int .i64 d.x.f1.f1, .string d.x.f1.f2, .slice d.A d.x.f2.length d.c]] w fun e W' => e = .returned (.int .i64 9) ∧ Below w.heap.size w W' := by
  have H1 := Aside0.mk (Size_calls d)
  have HC := Aside0.mk hC
  have hm2 : decide ((200 : Int) < ((preS d.x).length : Int)) = true := decide_eq_true (by omega)
  have hb0 : Below w.heap.size w ((w.alloc (.cells #[.int .i64 d.x.f0, .int .u8 d.x.f1.f0, .int .i64 d.x.f1.f1, .string d.x.f1.f2, .slice d.A d.x.f2.length d.c] 35)).alloc (.cells #[.int .i64 0] 41)) := ((Below.refl _ w).alloc (Nat.le_refl _) _).alloc (by simp) _
  have bR := Boxed.new (w.alloc (.cells #[.int .i64 d.x.f0, .int .u8 d.x.f1.f0, .int .i64 d.x.f1.f1, .string d.x.f1.f2, .slice d.A d.x.f2.length d.c] 35)) 41 (.int .i64 0)
  simp only [World.size_alloc] at bR
  have HB := Aside0.mk hb0
  have HR := Aside0.mk bR
  clear hb0 bR hC
  refine (callsIn_wide (n := 3)).1 ?_
  refine callsIn_of_wp_marks Tryd.func24 rfl trivial ?_ rfl
  simp only [Tryd.ntmps24, List.size_toArray, List.length_cons, List.length_nil, Nat.reduceAdd, Nat.reduceSub, Array.replicate_succ, Array.replicate_zero, List.push_toArray, List.append_toArray, List.nil_append, List.cons_append]
  gi_wp2_with (refine ⟨trivial, ?_⟩; gi_at_call 19; refine (callsIn_wide.2 (H1.out _ (Kd.C_below HC.out HB.out) hsz)).mono ?_; rintro e w' ⟨rfl, hb⟩; have bR := boxed_below HR.out hb; have cR := bR.cell; have fR := bR.frozen)
  have cR2 := (bR.set (.int .i64 9)).cell
  refine ⟨.int .i64 9, ?_, rfl, ?_⟩
  · simp [results, Tryd.f24, go_sem, cR2]
  · exact (HB.out.trans (hb.mono HB.out.size)).setCell (p := ⟨w.heap.size + 1, 0, none⟩) (by simp) _

set_option maxRecDepth 100000 in
set_option maxHeartbeats 2000000 in
theorem Right_deep (d : Nd) (w : World) (hC : Kd.C k35 w d.A d.x.f2.length d.x.f2) (hc : d.x.f2.length ≤ d.c) (hsz : (preS d.x).length < 9223372036854775807) (hm : (preS d.x).length ≤ 200) (k : Nat) (dp : Int) (hdp : expr_Deep.f k d.x.f0 d.x.f1.f0 d.x.f1.f1 d.x.f1.f2 d.x.f2 = some dp) (hd : 20 < dp) :
    Calls Tryd.prog 24 #[.agg #[.int .i64 d.x.f0, .int .u8 d.x.f1.f0, .int .i64 d.x.f1.f1, .string d.x.f1.f2, .slice d.A d.x.f2.length d.c]] w fun e W' => e = .returned (.int .i64 8) ∧ Below w.heap.size w W' := by
  have H1 := Aside0.mk (Size_calls d)
  have H2 := Aside0.mk (fun W (h : Kd.C k35 W d.A d.x.f2.length d.x.f2) => expr_Deep.calls k d.x.f0 d.x.f1.f0 d.x.f1.f1 d.x.f1.f2 d.A d.c d.x.f2 dp W h hc hdp)
  have HC := Aside0.mk hC
  have hm2 : decide ((200 : Int) < ((preS d.x).length : Int)) = false := decide_eq_false (by omega)
  have hd2 : decide ((20 : Int) < dp) = true := decide_eq_true hd
  have hb0 : Below w.heap.size w ((w.alloc (.cells #[.int .i64 d.x.f0, .int .u8 d.x.f1.f0, .int .i64 d.x.f1.f1, .string d.x.f1.f2, .slice d.A d.x.f2.length d.c] 35)).alloc (.cells #[.int .i64 0] 41)) := ((Below.refl _ w).alloc (Nat.le_refl _) _).alloc (by simp) _
  have bX := (Box5.new w d).alloc (.cells #[.int .i64 0] 41)
  have bR := Boxed.new (w.alloc (.cells #[.int .i64 d.x.f0, .int .u8 d.x.f1.f0, .int .i64 d.x.f1.f1, .string d.x.f1.f2, .slice d.A d.x.f2.length d.c] 35)) 41 (.int .i64 0)
  simp only [World.size_alloc] at bR
  have HB := Aside0.mk hb0
  have HR := Aside0.mk bR
  have HX := Aside0.mk bX
  clear hb0 bR bX hC hdp hd hm
  refine (callsIn_wide (n := 3)).1 ?_
  refine callsIn_of_wp_marks Tryd.func24 rfl trivial ?_ rfl
  simp only [Tryd.ntmps24, List.size_toArray, List.length_cons, List.length_nil, Nat.reduceAdd, Nat.reduceSub, Array.replicate_succ, Array.replicate_zero, List.push_toArray, List.append_toArray, List.nil_append, List.cons_append]
  gi_wp2_with (first
    | (refine ⟨trivial, ?_⟩; gi_at_call 19; refine (callsIn_wide.2 (H1.out _ (Kd.C_below HC.out HB.out) hsz)).mono ?_; rintro e w1 ⟨rfl, hb⟩; have HB1 := Aside0.mk (HB.out.trans (hb.mono HB.out.size)); have HR1 := Aside0.mk (boxed_below HR.out hb); obtain ⟨x0, x1, x2, x3, x4⟩ := (box5_below HX.out hb).cells; clear hb)
    | (refine ⟨trivial, ?_⟩; gi_at_call 21; refine (callsIn_wide.2 (H2.out _ (Kd.C_below HC.out HB1.out))).mono ?_; rintro e w2 ⟨rfl, hb⟩; have HB2 := Aside0.mk (HB1.out.trans (hb.mono HB1.out.size)); have bR := boxed_below HR1.out hb; have cR := bR.cell; have fR := bR.frozen; clear hb))
  have cR2 := (bR.set (.int .i64 8)).cell
  refine ⟨.int .i64 8, ?_, rfl, ?_⟩
  · simp [results, Tryd.f24, go_sem, cR2]
  · exact HB2.out.setCell (p := ⟨w.heap.size + 1, 0, none⟩) (by simp) _

set_option maxRecDepth 100000 in
set_option maxHeartbeats 2000000 in
theorem Right_loop (d : Nd) (w : World) (hC : Kd.C k35 w d.A d.x.f2.length d.x.f2) (hc : d.x.f2.length ≤ d.c) (hsz : (preS d.x).length < 9223372036854775807) (hm : (preS d.x).length ≤ 200) (k : Nat) (dp : Int) (hdp : expr_Deep.f k d.x.f0 d.x.f1.f0 d.x.f1.f1 d.x.f1.f2 d.x.f2 = some dp) (hd : dp ≤ 20) :
    Calls Tryd.prog 24 #[.agg #[.int .i64 d.x.f0, .int .u8 d.x.f1.f0, .int .i64 d.x.f1.f1, .string d.x.f1.f2, .slice d.A d.x.f2.length d.c]] w fun e W' => e = .returned (.int .i64 (endS d.x)) ∧ Below w.heap.size w W' := by
  have H1 := Aside0.mk (Size_calls d)
  have H2 := Aside0.mk (fun W (h : Kd.C k35 W d.A d.x.f2.length d.x.f2) => expr_Deep.calls k d.x.f0 d.x.f1.f0 d.x.f1.f1 d.x.f1.f2 d.A d.c d.x.f2 dp W h hc hdp)
  have HC := Aside0.mk hC
  have hm2 : decide ((200 : Int) < ((preS d.x).length : Int)) = false := decide_eq_false (by omega)
  have hd2 : decide ((20 : Int) < dp) = false := decide_eq_false (by omega)
  have hb0 : Below w.heap.size w ((w.alloc (.cells #[.int .i64 d.x.f0, .int .u8 d.x.f1.f0, .int .i64 d.x.f1.f1, .string d.x.f1.f2, .slice d.A d.x.f2.length d.c] 35)).alloc (.cells #[.int .i64 0] 41)) := ((Below.refl _ w).alloc (Nat.le_refl _) _).alloc (by simp) _
  have bX := (Box5.new w d).alloc (.cells #[.int .i64 0] 41)
  have bR := Boxed.new (w.alloc (.cells #[.int .i64 d.x.f0, .int .u8 d.x.f1.f0, .int .i64 d.x.f1.f1, .string d.x.f1.f2, .slice d.A d.x.f2.length d.c] 35)) 41 (.int .i64 0)
  simp only [World.size_alloc] at bR
  have HB := Aside0.mk hb0
  have HR := Aside0.mk bR
  have HX := Aside0.mk bX
  clear hb0 bR bX hC hdp hd hm
  refine (callsIn_wide (n := 3)).1 ?_
  refine callsIn_of_wp_marks Tryd.func24 rfl trivial ?_ rfl
  simp only [Tryd.ntmps24, List.size_toArray, List.length_cons, List.length_nil, Nat.reduceAdd, Nat.reduceSub, Array.replicate_succ, Array.replicate_zero, List.push_toArray, List.append_toArray, List.nil_append, List.cons_append]
  gi_wp2_with (first
    | (refine ⟨trivial, ?_⟩; gi_at_call 19; refine (callsIn_wide.2 (H1.out _ (Kd.C_below HC.out HB.out) hsz)).mono ?_; rintro e w1 ⟨rfl, hb⟩; have HB1 := Aside0.mk (HB.out.trans (hb.mono HB.out.size)); have HR1 := Aside0.mk (boxed_below HR.out hb); have HX1 := Aside0.mk (box5_below HX.out hb); obtain ⟨x0, x1, x2, x3, x4⟩ := HX1.out.cells; clear hb)
    | (refine ⟨trivial, ?_⟩; gi_at_call 21; refine (callsIn_wide.2 (H2.out _ (Kd.C_below HC.out HB1.out))).mono ?_; rintro e w2 ⟨rfl, hb⟩; have HB2 := Aside0.mk (HB1.out.trans (hb.mono HB1.out.size)); have HR2 := Aside0.mk (boxed_below HR1.out hb); obtain ⟨y0, y1, y2, y3, y4⟩ := ((box5_below HX1.out hb).alloc (.cells #[.int .i64 0] 41)).cells; clear hb x0 x1 x2 x3 x4)
    | (refine ⟨trivial, ?_⟩; gi_at_call 40; refine (parts_in Fence.wide _ trivial rfl d _).mono ?_; rintro e w3 ⟨rfl, rfl⟩))
  clear y0 y1 y2 y3 y4
  have hw2 := HB2.out.size
  have bE := (Boxed.new w2 41 (.int .i64 0)).alloc (.cells #[.int .i64 d.x.f0, .int .u8 d.x.f1.f0, .int .i64 d.x.f1.f1, .string d.x.f1.f2, .slice d.A d.x.f2.length d.c] 35)
  have bR := (HR2.out.alloc (.cells #[.int .i64 0] 41)).alloc (.cells #[.int .i64 d.x.f0, .int .u8 d.x.f1.f0, .int .i64 d.x.f1.f1, .string d.x.f1.f2, .slice d.A d.x.f2.length d.c] 35)
  have bP := Box5.new (w2.alloc (.cells #[.int .i64 0] 41)) d
  have hB0 : Below w.heap.size w ((w2.alloc (.cells #[.int .i64 0] 41)).alloc (.cells #[.int .i64 d.x.f0, .int .u8 d.x.f1.f0, .int .i64 d.x.f1.f1, .string d.x.f1.f2, .slice d.A d.x.f2.length d.c] 35)) := (HB2.out.alloc hw2 _).alloc (by simp; omega) _
  have hsz0 : ((w2.alloc (.cells #[.int .i64 0] 41)).alloc (.cells #[.int .i64 d.x.f0, .int .u8 d.x.f1.f0, .int .i64 d.x.f1.f1, .string d.x.f1.f2, .slice d.A d.x.f2.length d.c] 35)).heap.size = w2.heap.size + 2 := by simp
  simp only [World.size_alloc] at bP
  have hlt1 : w.heap.size + 1 < w2.heap.size := HR2.out.lt
  obtain ⟨W0, hW0⟩ : ∃ W0, (w2.alloc (.cells #[.int .i64 0] 41)).alloc (.cells #[.int .i64 d.x.f0, .int .u8 d.x.f1.f0, .int .i64 d.x.f1.f1, .string d.x.f1.f2, .slice d.A d.x.f2.length d.c] 35) = W0 := ⟨_, rfl⟩
  rw [hW0] at bE bR bP hB0 hsz0 ⊢
  clear hW0 HB HR HX HB1 HR1 HX1 HB2 HR2 H1 H2
  have hsz1 : w2.heap.size + 2 ≤ W0.heap.size := by omega
  clear hsz0
  refine wpIn_rangeFunc_ownH (hro := rfl) (h1 := by omega) (gf := 48) (lb := #[.pointer (some ⟨w2.heap.size + 1, 0, none⟩)]) rfl trivial (enters_of Tryd.func48 (by kernel_rfl) rfl)
    (parts_stops Fence.wide rfl (3 - 1) trivial trivial rfl (w2.heap.size + 1) w d W0 (by omega) bP HC.out hB0) KpC.trans (KpC.putObj (by omega)) (Below.refl _ _) (fun _ => rfl)
    (fun pre W => (((∀ y, y ∈ pre → okB y.x = true) ∧ Boxed W w2.heap.size 41 (.int .i64 (errOf (pre.map (·.x))))) ∧ Boxed W (w.heap.size + 1) 41 (.int .i64 0)) ∧ Below w.heap.size w W)
    (fun c pre W => ((c = .ret ∧ ∃ y, y ∈ pre ∧ okB y.x = false) ∧ Boxed W (w.heap.size + 1) 41 (.int .i64 3)) ∧ Below w.heap.size w W)
    (OwnFrom.and (OwnFrom.and (OwnFrom.and (ownFrom_pure _ _) (Own.from (boxed_own _ _ _) _)) (Own.from (boxed_own _ _ _) _)) (ownFrom_below (Nat.le_refl _) (by omega)))
    (fun c => OwnFrom.and (OwnFrom.and (ownFrom_pure _ _) (Own.from (boxed_own _ _ _) _)) (ownFrom_below (Nat.le_refl _) (by omega)))
    ⟨⟨⟨by simp, bE⟩, bR⟩, hB0⟩
    (fun x a' W => ∃ Bx, Box5 W Bx x ∧ a' = { tmps := #[.agg #[.int .i64 d.x.f0, .int .u8 d.x.f1.f0, .int .i64 d.x.f1.f1, .string d.x.f1.f2, .slice d.A d.x.f2.length d.c], .pointer (some ⟨w.heap.size, 0, none⟩), .pointer (some ⟨w.heap.size + 1, 0, none⟩), .pointer (some ⟨w2.heap.size, 0, none⟩), .pointer (some ⟨Bx, 0, none⟩), .bool false, .agg #[.int .i64 d.x.f0, .int .u8 d.x.f1.f0, .int .i64 d.x.f1.f1, .string d.x.f1.f2, .slice d.A d.x.f2.length d.c], .int .i64 ((preS d.x).length : Int), .bool false, .bool false, .agg #[.int .i64 d.x.f0, .int .u8 d.x.f1.f0, .int .i64 d.x.f1.f1, .string d.x.f1.f2, .slice d.A d.x.f2.length d.c], .int .i64 dp, .bool false, .agg #[.int .i64 d.x.f0, .int .u8 d.x.f1.f0, .int .i64 d.x.f1.f1, .string d.x.f1.f2, .slice d.A d.x.f2.length d.c], .func (.func 48) #[] #[.pointer (some ⟨w2.heap.size + 1, 0, none⟩)], .agg #[.int .i64 x.x.f0, .int .u8 x.x.f1.f0, .int .i64 x.x.f1.f1, .string x.x.f1.f2, .slice x.A x.x.f2.length x.c], undef, undef, undef, undef, undef, undef, undef, undef, undef, undef, undef, undef, undef, undef, undef, undef, undef, undef, undef, undef, undef, undef, undef, undef], defers := [] })
    (fun x a' _ X Y row hs hg hr => by
      obtain ⟨Bx, g2, g3⟩ := hs
      refine ⟨Bx, ?_, g3⟩
      unfold Box5 at g2 ⊢
      exact (hg.block Bx (Array.getElem?_eq_some_iff.1 g2).1 (fun e => by obtain ⟨_, o, ho, hc⟩ := hr Bx e.symm; rw [g2] at ho; cases ho; cases hc)).trans g2)
    ?assign ?body ?done ?stop
  case assign =>
    rintro l pre x W K ⟨⟨⟨hp, bE1⟩, bR1⟩, hB1⟩ hK
    dsimp only [encs]
    gi_wp2
    exact hK _ _ ((KeepsOthers.alloc _ _).from _) ((KpC.refl _ _ W).alloc (by have := bE1.lt; omega) _) ⟨⟨⟨hp, bE1.alloc _⟩, bR1.alloc _⟩, hB1.alloc hB1.size _⟩ ⟨W.heap.size, Box5.new W x, by simp⟩
  case body =>
    rintro l pre x a' W _ _ ⟨⟨⟨hp, bE1⟩, bR1⟩, hB1⟩ ⟨Bx, bX1, rfl⟩ hlt
    obtain ⟨x0, x1, x2, x3, x4⟩ := bX1.cells
    have h1' : 1 ≤ 3 - 1 - 1 := by omega
    have hmx : Tryd.prog.follows .mixedOrders = true := by kernel_rfl
    have cR := bR1.cell
    have fR := bR1.frozen
    have cE := bE1.cell
    have fE := bE1.frozen
    gi_wp2
    gi_cut [22] from 16 (fun v22 wc => v22 = .bool (arityS x.x.f0 != (x.x.f2.length : Int)) ∧ ∃ q, wc = W.drewN q)
    case first =>
      gi_region_with_o (refine ⟨trivial, ?_⟩; gi_at_call 10; refine (CallsIn.inRound l (callsIn_wide.2 (arity_calls _ _))).mono ?_; rintro e w' ⟨rfl, q, rfl⟩)
      all_goals (gi_wp2_with fail; gi_meet; case rel => exact ⟨rfl, _, rfl⟩)
    case rest =>
      obtain ⟨rfl, q, rfl⟩ := hcut
      have HP := Aside0.mk hp
      clear hp
      by_cases hok : okB x.x = true
      · have hnq : (arityS x.x.f0 != (x.x.f2.length : Int)) = false := by unfold okB at hok; simpa using hok
        have HO := Aside0.mk hok
        clear hok
        have fin : ∀ (W3 : World), KeepsFrom W0.heap.size W W3 → KpC w.heap.size W0.heap.size W W3 → Boxed W3 w2.heap.size 41 (.int .i64 (if wideB x.x = true then 5 else errOf (pre.map (·.x)))) → Boxed W3 (w.heap.size + 1) 41 (.int .i64 0) → Below w.heap.size w W3 →
            ownPostG W0.heap.size (KpC w.heap.size W0.heap.size) (fun pre W => (((∀ y, y ∈ pre → okB y.x = true) ∧ Boxed W w2.heap.size 41 (.int .i64 (errOf (pre.map (·.x))))) ∧ Boxed W (w.heap.size + 1) 41 (.int .i64 0)) ∧ Below w.heap.size w W)
              (fun c pre W => ((c = .ret ∧ ∃ y, y ∈ pre ∧ okB y.x = false) ∧ Boxed W (w.heap.size + 1) 41 (.int .i64 3)) ∧ Below w.heap.size w W) (pre ++ [x]) W .normal { tmps := #[], defers := [] } W3 := by
          intro W3 k1 k2 k3 k4 k5
          refine ⟨k1, k2, ⟨⟨fun y hy => ?_, ?_⟩, k4⟩, k5⟩
          · rcases List.mem_append.1 hy with hy | hy
            · exact HP.out y hy
            · rw [List.mem_singleton.1 hy]; exact HO.out
          · rw [List.map_append, List.map_cons, List.map_nil, errOf_snoc]; exact k3
        by_cases g0 : x.x.f0 = 0
        · have b0 : (x.x.f0 == 0) = true := beq_iff_eq.2 g0
          clear g0
          by_cases g1 : x.x.f1.f0 = 0
          · have b1 : (x.x.f1.f0 != 0) = false := bne_eq_false_iff_eq.2 g1
            have hw : wideB x.x = false := by unfold wideB; rw [b0, b1]; rfl
            clear g1
            gi_wp2
            exact fin _ ((keeps_drewN _ _).from _) ((KpC.refl _ _ W).drewN q) (by rw [hw]; exact bE1) bR1 (pw_below_drewN hB1 q)
          · have b1 : (x.x.f1.f0 != 0) = true := bne_iff_ne.2 g1
            clear g1
            by_cases g2 : (65536 : Int) < (x.x.f1.f2.size : Int)
            · have b2 : decide ((65536 : Int) < (x.x.f1.f2.size : Int)) = true := decide_eq_true g2
              have hw : wideB x.x = true := by unfold wideB; rw [b0, b1, b2]; rfl
              clear g2
              gi_wp2
              exact fin _ (((keeps_drewN _ _).trans (KeepsOthers.setCell _ _ _)).from _) (((KpC.refl _ _ W).drewN q).set (b := w2.heap.size) (by omega) (by omega) 0 _) (by rw [hw]; exact Boxed.set _ (show Boxed (W.drewN q) _ _ _ from bE1)) (Boxed.other (show Boxed (W.drewN q) _ _ _ from bR1) (by omega) _) ((pw_below_drewN hB1 q).setCell (p := ⟨w2.heap.size, 0, none⟩) (by simp; omega) _)
            · have b2 : decide ((65536 : Int) < (x.x.f1.f2.size : Int)) = false := decide_eq_false g2
              have hw : wideB x.x = false := by unfold wideB; rw [b0, b1, b2]; rfl
              clear g2
              gi_wp2
              exact fin _ ((keeps_drewN _ _).from _) ((KpC.refl _ _ W).drewN q) (by rw [hw]; exact bE1) bR1 (pw_below_drewN hB1 q)
        · have b0 : (x.x.f0 == 0) = false := beq_eq_false_iff_ne.2 g0
          have hw : wideB x.x = false := by unfold wideB; rw [b0]; rfl
          clear g0
          gi_wp2
          exact fin _ ((keeps_drewN _ _).from _) ((KpC.refl _ _ W).drewN q) (by rw [hw]; exact bE1) bR1 (pw_below_drewN hB1 q)
      · have hok2 : okB x.x = false := by simpa using hok
        have hnq : (arityS x.x.f0 != (x.x.f2.length : Int)) = true := by unfold okB at hok2; simpa using hok2
        clear hok
        have HO := Aside0.mk hok2
        clear hok2
        gi_wp2
        exact ⟨((keeps_drewN _ _).trans (KeepsOthers.setCell _ _ _)).from _, ⟨⟨rfl, x, by simp, HO.out⟩, Boxed.set _ (show Boxed (W.drewN q) _ _ _ from bR1)⟩, (pw_below_drewN hB1 q).setCell (p := ⟨w.heap.size + 1, 0, none⟩) (by simp) _⟩
  case done =>
    rintro D zs W hD hzs ⟨⟨⟨hp, bE1⟩, bR1⟩, hB1⟩ hK
    have hall : (preS d.x).all okB = true := by
      rw [← hzs, List.all_map, List.all_eq_true]
      exact hp
    have HA := Aside0.mk hall
    have HZ := Aside0.mk hzs
    clear hall hzs hp
    have cE := bE1.cell
    have cR := bR1.cell
    have fR := bR1.frozen
    gi_wp2
    have hK' := (KeepsOthers.setCell W ⟨w.heap.size + 1, 0, none⟩ (.int .i64 (errOf (zs.map (·.x))))).same D _ hK rfl
    refine ⟨by simp, .inl ⟨_, _, rfl, run_takeDeferred hK', ?_⟩⟩
    have hc5 := cell_kept (World.cell?_setCell_same' W ⟨w.heap.size + 1, 0, none⟩ (.int .i64 (errOf (zs.map (·.x)))) (by rw [cR]; rfl)) (grownBy_putObj' _ D (.deferred none)) (fun r e => by cases e; exact ⟨_, hK', rfl⟩)
    refine ⟨.int .i64 (errOf (zs.map (·.x))), ?_, ?_, (hB1.setCell (p := ⟨w.heap.size + 1, 0, none⟩) (by simp) _).trans (belowK_b (w := w) (Nat.le_refl _) _ D _ _ (by omega) hK' rfl rfl)⟩
    · simp [results, Tryd.f24, go_sem, hc5]
    · unfold endS; rw [HA.out, if_pos rfl, HZ.out]
  case stop =>
    rintro D c pre W hD hpre ⟨⟨⟨rfl, y, hy, hf⟩, bR1⟩, hB1⟩ hK
    have hall : (preS d.x).all okB = false := by
      rw [List.all_eq_false]
      exact ⟨y.x, hpre.subset (List.mem_map.2 ⟨y, hy, rfl⟩), by rw [hf]; decide⟩
    have HA := Aside0.mk hall
    clear hall hf
    have cR := bR1.cell
    gi_wp2
    refine ⟨by simp, .inl ⟨_, _, rfl, run_takeDeferred hK, ?_⟩⟩
    have hc5 := cell_kept cR (grownBy_putObj' _ D (.deferred none)) (fun r e => by cases e; exact ⟨_, hK, rfl⟩)
    refine ⟨.int .i64 3, ?_, by unfold endS; rw [HA.out]; rfl, hB1.trans (belowK_b (w := w) (Nat.le_refl _) W D _ _ (by omega) hK rfl rfl)⟩
    simp [results, Tryd.f24, go_sem, hc5]

/-- 'expr.Right', whatever the expression. -/
theorem Right_calls (d : Nd) (w : World) (hC : Kd.C k35 w d.A d.x.f2.length d.x.f2) (hc : d.x.f2.length ≤ d.c) (hsz : (preS d.x).length < 9223372036854775807) (k : Nat) (dp : Int) (hdp : expr_Deep.f k d.x.f0 d.x.f1.f0 d.x.f1.f1 d.x.f1.f2 d.x.f2 = some dp) :
    Calls Tryd.prog 24 #[.agg #[.int .i64 d.x.f0, .int .u8 d.x.f1.f0, .int .i64 d.x.f1.f1, .string d.x.f1.f2, .slice d.A d.x.f2.length d.c]] w fun e W' => e = .returned (.int .i64 (rightS d.x dp)) ∧ Below w.heap.size w W' := by
  by_cases h1 : 200 < (preS d.x).length
  · have hr : rightS d.x dp = 9 := if_pos h1
    rw [hr]
    exact Right_many d w hC hsz h1
  · by_cases h2 : 20 < dp
    · have hr : rightS d.x dp = 8 := by unfold rightS; rw [if_neg h1, if_pos h2]
      rw [hr]
      exact Right_deep d w hC hc hsz (by omega) k dp hdp h2
    · have hr : rightS d.x dp = endS d.x := by unfold rightS; rw [if_neg h1, if_neg h2]
      rw [hr]
      exact Right_loop d w hC hc hsz (by omega) k dp hdp (by omega)
end Go.Proofs.YtaebjcldopoccaaDoor.EsIter
