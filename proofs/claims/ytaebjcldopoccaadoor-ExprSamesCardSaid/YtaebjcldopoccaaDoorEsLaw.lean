/- The plain laws of an expression's size, depth, form and weight, and of the document's. No Go and no memory here but expr.Right's contract. -/
import Derived.Test.YtaebjcldopoccaaDoorEsText
import Derived.Test.YtaebjcldopoccaaDoorEsx3
import Derived.Test.YtaebjcldopoccaaDoorEsx4
import Derived.WalkLawsBesides
import Derived.WalkSpells
set_option linter.unusedVariables false
set_option linter.unusedSimpArgs false
namespace Go.Proofs.YtaebjcldopoccaaDoor.EsLaw
open Go.RowKit Go.Shelf Go.Proofs.YtaebjcldopoccaaDoorW.PrintWords Go.Proofs.YtaebjcldopoccaaDoorW.PrintLast Go.Proofs.YtaebjcldopoccaaDoorW.PrintMore Go.Proofs.YtaebjcldopoccaaDoor.Es Go.Proofs.YtaebjcldopoccaaDoor.EsIter

theorem rd_at (pre rest : List S35) (a : S35) : rd_T35 (pre ++ a :: rest) (pre.length : Int) = a := by
  unfold rd_T35
  rw [Int.toNat_natCast, List.getD_eq_getElem?_getD, List.getElem?_append_right (Nat.le_refl _)]
  simp
theorem wrap_nat {n : Nat} (h : n < 9223372036854775807) : wrap64 ((n : Int) + 1) = ((n + 1 : Nat) : Int) := by
  unfold wrap64
  omega
theorem ev_here {α : Type} {g : Nat → Option α} {r : α} (h : ∀ k, g (k + 1) = some r) : Ev g r := Ev.step (f := fun _ => some r) h (Ev.now r)

/-- What every value that came in keeps: each number is of its kind, each text and list is of a length. -/
def V32 (v : S32) : Prop := 0 ≤ v.f0 ∧ v.f0 ≤ 255 ∧ -9223372036854775808 ≤ v.f1 ∧ v.f1 ≤ 9223372036854775807 ∧ v.f2.size ≤ 9223372036854775807
inductive Fit35 : S35 → Prop where
  | mk {o : Int} {v : S32} {l : List S35} : -9223372036854775808 ≤ o → o ≤ 9223372036854775807 → V32 v → l.length ≤ 9223372036854775807 → (∀ a, a ∈ l → Fit35 a) → Fit35 ⟨o, v, l⟩

theorem ev_pos {α : Type} {c : Prop} [Decidable c] {g f : Nat → Option α} {r : α} (hc : c) (h : Ev g r) : Ev (fun k => if c then g k else f k) r := Ev.congr (fun _ => if_pos hc) h
theorem ev_neg {α : Type} {c : Prop} [Decidable c] {g f : Nat → Option α} {r : α} (hc : ¬ c) (h : Ev f r) : Ev (fun k => if c then g k else f k) r := Ev.congr (fun _ => if_neg hc) h

/-! ### how much an expression weighs -/
mutual
def weighS : S35 → Int → Int
  | ⟨_, v, l⟩, left => weighsS l (left - 1 - (v.f2.size : Int))
def weighsS : List S35 → Int → Int
  | [], left => left
  | a :: t, left => if left ≥ 0 then weighsS t (weighS a left) else left
end

theorem weigh_ev (x : S35) : Fit35 x → ∀ left : Int, 0 ≤ left → left ≤ 3000 →
    Ev (fun k => gristmillref09_weigh.f k x.f0 x.f1.f0 x.f1.f1 x.f1.f2 x.f2 left) (weighS x left) ∧ -9223372036854775808 ≤ weighS x left ∧ weighS x left ≤ 3000 := by
  induction x using tree_ind with
  | h o v l ih =>
  intro g left h0 h1
  cases g with
  | mk o1 o2 hv hl hg =>
  have hs := hv.2.2.2.2
  have key : ∀ (rest pre : List S35) (y : Int), l = pre ++ rest → -9223372036854775808 ≤ y → y ≤ 3000 →
      Ev (fun k => gristmillref09_weigh.l0 k y (pre.length : Int) o v.f0 v.f1 v.f2 l) (weighsS rest y) ∧ -9223372036854775808 ≤ weighsS rest y ∧ weighsS rest y ≤ 3000 := by
    intro rest
    induction rest with
    | nil =>
      intro pre y hp y0 y1
      rw [List.append_nil] at hp
      subst hp
      refine ⟨ev_here fun k => ?_, y0, y1⟩
      simp only [gristmillref09_weigh.l0]
      rw [if_neg (by omega)]
      rfl
    | cons a t iht =>
      intro pre y hp y0 y1
      have hlen : l.length = pre.length + (t.length + 1) := by rw [hp]; simp
      have hlt : (pre.length : Int) < (l.length : Int) := by omega
      by_cases hy : y ≥ 0
      · obtain ⟨e1, e2, e3⟩ := ih a (by rw [hp]; simp) (hg a (by rw [hp]; simp)) y hy y1
        obtain ⟨d1, d2, d3⟩ := iht (pre ++ [a]) (weighS a y) (by rw [hp]; simp) e2 e3
        have hw : weighsS (a :: t) y = weighsS t (weighS a y) := by simp only [weighsS]; rw [if_pos hy]
        rw [hw]
        refine ⟨Ev.step (f := fun k => (gristmillref09_weigh.f k a.f0 a.f1.f0 a.f1.f1 a.f1.f2 a.f2 y).bind fun t103 => gristmillref09_weigh.l0 k t103 ((pre ++ [a]).length : Int) o v.f0 v.f1 v.f2 l) (fun k => ?_) (Ev.bind e1 d1), d2, d3⟩
        simp only [gristmillref09_weigh.l0]
        rw [if_pos hlt, if_pos hy, if_pos (by omega), hp, rd_at, wrap_nat (by omega)]
        simp
      · have hw : weighsS (a :: t) y = y := by simp only [weighsS]; rw [if_neg hy]
        rw [hw]
        refine ⟨ev_here fun k => ?_, y0, y1⟩
        simp only [gristmillref09_weigh.l0]
        rw [if_pos hlt, if_neg hy]
  have hw : wrap64 (wrap64 (left - 1) - (v.f2.size : Int)) = left - 1 - (v.f2.size : Int) := by
    unfold wrap64
    omega
  obtain ⟨d1, d2, d3⟩ := key l [] (left - 1 - (v.f2.size : Int)) rfl (by omega) (by omega)
  refine ⟨Ev.step (f := fun k => gristmillref09_weigh.l0 k (left - 1 - (v.f2.size : Int)) 0 o v.f0 v.f1 v.f2 l) (fun k => ?_) d1, d2, d3⟩
  simp only [gristmillref09_weigh.f]
  rw [hw]

theorem big_ev (x : S35) (g : Fit35 x) : Ev (fun k => gristmillref09_Big.f k x.f0 x.f1.f0 x.f1.f1 x.f1.f2 x.f2) (decide (weighS x 3000 < 0)) := by
  have h := (weigh_ev x g 3000 (by omega) (by omega)).1
  exact Ev.congr (f := fun k => (gristmillref09_weigh.f k x.f0 x.f1.f0 x.f1.f1 x.f1.f2 x.f2 3000).bind fun t105 => some (decide (t105 < 0))) (fun k => rfl) (Ev.bind h (Ev.now _))


/-! ### what is not big has few parts -/
theorem weigh_len (x : S35) : ∀ left : Int, 0 ≤ weighS x left → ((preS x).length : Int) + weighS x left ≤ left := by
  induction x using tree_ind with
  | h o v l ih =>
  have key : ∀ (rest : List S35) (y : Int), (∀ a, a ∈ rest → a ∈ l) → 0 ≤ weighsS rest y → ((presS rest).length : Int) + weighsS rest y ≤ y := by
    intro rest
    induction rest with
    | nil => intro y _ h; simp only [weighsS, presS, List.length_nil] at h ⊢; omega
    | cons a t iht =>
      intro y hm h
      by_cases hy : y ≥ 0
      · have hw : weighsS (a :: t) y = weighsS t (weighS a y) := by simp only [weighsS]; rw [if_pos hy]
        rw [hw] at h ⊢
        have h1 := iht (weighS a y) (fun b hb => hm b (List.mem_cons_of_mem _ hb)) h
        have h2 := ih a (hm a List.mem_cons_self) y (by omega)
        simp only [presS, List.length_append]
        omega
      · have hw : weighsS (a :: t) y = y := by simp only [weighsS]; rw [if_neg hy]
        rw [hw] at h
        omega
  intro left h
  have hw : weighS ⟨o, v, l⟩ left = weighsS l (left - 1 - (v.f2.size : Int)) := by simp only [weighS]
  rw [hw] at h ⊢
  have := key l _ (fun a h => h) h
  simp only [preS, List.length_cons]
  omega
def bigS (x : S35) : Bool := decide (weighS x 3000 < 0)
theorem small_of {x : S35} (h : bigS x = false) : (preS x).length ≤ 3000 := by
  unfold bigS at h
  have h := of_decide_eq_false h
  have := weigh_len x 3000 (by omega)
  omega


/-! ### depths -/
mutual
def deepS : S35 → Int
  | ⟨_, _, l⟩ => deepsS 0 l + 1
def deepsS (n : Int) : List S35 → Int
  | [] => n
  | a :: t => deepsS (mx n (deepS a)) t
end
theorem deep_ev (x : S35) : (preS x).length < 9223372036854775807 → Ev (fun k => expr_Deep.f k x.f0 x.f1.f0 x.f1.f1 x.f1.f2 x.f2) (deepS x) ∧ 0 ≤ deepS x ∧ deepS x ≤ ((preS x).length : Int) := by
  induction x using tree_ind with
  | h o v l ih =>
  intro hsz
  simp only [preS, List.length_cons] at hsz ⊢
  have hll : l.length ≤ (presS l).length := by
    clear ih hsz
    induction l with
    | nil => simp [presS]
    | cons a t iht =>
      have : 1 ≤ (preS a).length := by cases a; simp [preS]
      simp only [presS, List.length_append, List.length_cons]
      omega
  have key : ∀ (rest pre : List S35) (n : Int), l = pre ++ rest → 0 ≤ n → n ≤ ((presS l).length : Int) →
      Ev (fun k => expr_Deep.l0 k n l (l.length : Int) (pre.length : Int)) (deepsS n rest + 1) ∧ 0 ≤ deepsS n rest ∧ deepsS n rest ≤ ((presS l).length : Int) := by
    intro rest
    induction rest with
    | nil =>
      intro pre n hp n0 n1
      rw [List.append_nil] at hp
      subst hp
      refine ⟨ev_here fun k => ?_, n0, n1⟩
      simp only [expr_Deep.l0]
      rw [if_neg (by omega)]
      have : wrap64 (n + 1) = n + 1 := by unfold wrap64; omega
      rw [this]
      rfl
    | cons a t iht =>
      intro pre n hp n0 n1
      have hlen : l.length = pre.length + (t.length + 1) := by rw [hp]; simp
      have hpa : (preS a).length ≤ (presS l).length := by rw [hp, presS_append]; simp only [presS, List.length_append]; omega
      obtain ⟨e1, e2, e3⟩ := ih a (by rw [hp]; simp) (by omega)
      have hm0 : 0 ≤ mx n (deepS a) := by unfold mx; split <;> omega
      have hm1 : mx n (deepS a) ≤ ((presS l).length : Int) := by unfold mx; split <;> omega
      obtain ⟨d1, d2, d3⟩ := iht (pre ++ [a]) (mx n (deepS a)) (by rw [hp]; simp) hm0 hm1
      refine ⟨Ev.step (f := fun k => (expr_Deep.f k a.f0 a.f1.f0 a.f1.f1 a.f1.f2 a.f2).bind fun t104 => expr_Deep.l0 k (mx n t104) l (l.length : Int) ((pre ++ [a]).length : Int)) (fun k => ?_) (Ev.bind e1 d1), d2, d3⟩
      simp only [expr_Deep.l0]
      rw [if_pos (by omega), if_pos (by omega), if_pos (by omega)]
      have hrd : rd_T35 l (pre.length : Int) = a := by rw [hp]; exact rd_at pre t a
      rw [hrd, wrap_nat (by omega)]
      simp
  obtain ⟨d1, d2, d3⟩ := key l [] 0 rfl (by omega) (by omega)
  refine ⟨Ev.step (fun k => by simp only [expr_Deep.f]; rfl) d1, ?_, ?_⟩
  · simp only [deepS]; omega
  · simp only [deepS]; omega


def rv (x : S35) : Int := rightS x (deepS x)

/-- expr.Right at an expression whose parts can be counted. -/
theorem rv_calls (d : Nd) (hsz : (preS d.x).length < 9223372036854775807) (w : World) (hC : Kd.C k35 w d.A d.x.f2.length d.x.f2) (hc : d.x.f2.length ≤ d.c) :
    Calls Tryd.prog 24 #[.agg #[.int .i64 d.x.f0, .int .u8 d.x.f1.f0, .int .i64 d.x.f1.f1, .string d.x.f1.f2, .slice d.A d.x.f2.length d.c]] w fun e W' => e = .returned (.int .i64 (rv d.x)) ∧ Below w.heap.size w W' := by
  obtain ⟨k, h⟩ := (deep_ev d.x hsz).1.rounds
  exact Right_calls d w hC hc hsz k _ h


theorem arity_ref (op : Int) : Ev (fun k => gristmillref09_Arity.f k op) (arityS op) := by
  by_cases h : 0 ≤ op ∧ op ≤ 27
  · refine Ev.of (fun k => gristmillref09_Arity.mono op k) (k := 3) ?_
    rcases op_cases h.1 h.2 with h | h | h | h | h | h | h | h | h | h | h | h | h | h | h | h | h | h | h | h | h | h | h | h | h | h | h | h <;> subst h <;> rfl
  · refine ev_here (fun k => ?_)
    have ha : arityS op = -1 := by unfold arityS; rw [if_pos (by omega)]
    rw [ha]
    unfold gristmillref09_Arity.f
    by_cases h0 : op < 0
    · rw [if_pos h0]; rfl
    · rw [if_neg h0, decide_eq_true (by omega)]; rfl


/-! ### how great and deep, what may be -/
theorem kids_le (l : List S35) : l.length ≤ (presS l).length := by
  induction l with
  | nil => simp [presS]
  | cons a t iht =>
    have : 1 ≤ (preS a).length := by cases a; simp [preS]
    simp only [presS, List.length_append, List.length_cons]
    omega
theorem size_ref (x : S35) : (preS x).length < 9223372036854775807 → Ev (fun k => gristmillref09_Size.f k x.f0 x.f1.f0 x.f1.f1 x.f1.f2 x.f2) ((preS x).length : Int) := by
  induction x using tree_ind with
  | h o v l ih =>
  intro hsz
  simp only [preS, List.length_cons] at hsz ⊢
  have hll := kids_le l
  have key : ∀ (rest pre : List S35) (n : Nat), l = pre ++ rest → n + (presS rest).length = (presS l).length + 1 →
      Ev (fun k => gristmillref09_Size.l0 k (n : Int) (pre.length : Int) o v.f0 v.f1 v.f2 l) (((presS l).length + 1 : Nat) : Int) := by
    intro rest
    induction rest with
    | nil =>
      intro pre n hp hn
      rw [List.append_nil] at hp
      subst hp
      refine ev_here fun k => ?_
      simp only [gristmillref09_Size.l0]
      rw [if_neg (by omega)]
      simp only [presS, List.length_nil] at hn
      rw [← hn]
      rfl
    | cons a t iht =>
      intro pre n hp hn
      have hlen : l.length = pre.length + (t.length + 1) := by rw [hp]; simp
      simp only [presS, List.length_append] at hn
      have e1 := ih a (by rw [hp]; simp) (by omega)
      have d1 := iht (pre ++ [a]) (n + (preS a).length) (by rw [hp]; simp) (by omega)
      refine Ev.step (f := fun k => (gristmillref09_Size.f k a.f0 a.f1.f0 a.f1.f1 a.f1.f2 a.f2).bind fun s => gristmillref09_Size.l0 k (wrap64 ((n : Int) + s)) ((pre ++ [a]).length : Int) o v.f0 v.f1 v.f2 l) (fun k => ?_) (Ev.bind e1 ?_)
      · simp only [gristmillref09_Size.l0]
        rw [if_pos (by omega), if_pos (by omega)]
        have hrd : rd_T35 l (pre.length : Int) = a := by rw [hp]; exact rd_at pre t a
        rw [hrd, wrap_nat (by omega)]
        simp
      · have hw : wrap64 ((n : Int) + ((preS a).length : Int)) = ((n + (preS a).length : Nat) : Int) := by unfold wrap64; omega
        rw [hw]
        exact d1
  exact Ev.step (fun k => by simp only [gristmillref09_Size.f]; rfl) (key l [] 1 rfl (by omega))
theorem deep_ref (x : S35) : (preS x).length < 9223372036854775807 → Ev (fun k => gristmillref09_Deep.f k x.f0 x.f1.f0 x.f1.f1 x.f1.f2 x.f2) (deepS x) := by
  induction x using tree_ind with
  | h o v l ih =>
  intro hsz
  simp only [preS, List.length_cons] at hsz ⊢
  have hll := kids_le l
  have key : ∀ (rest pre : List S35) (n : Int), l = pre ++ rest → 0 ≤ n → n ≤ ((presS l).length : Int) →
      Ev (fun k => gristmillref09_Deep.l0 k n (pre.length : Int) o v.f0 v.f1 v.f2 l) (deepsS n rest + 1) := by
    intro rest
    induction rest with
    | nil =>
      intro pre n hp n0 n1
      rw [List.append_nil] at hp
      subst hp
      refine ev_here fun k => ?_
      simp only [gristmillref09_Deep.l0]
      rw [if_neg (by omega)]
      have : wrap64 (n + 1) = n + 1 := by unfold wrap64; omega
      rw [this]
      rfl
    | cons a t iht =>
      intro pre n hp n0 n1
      have hlen : l.length = pre.length + (t.length + 1) := by rw [hp]; simp
      have hpa : (preS a).length ≤ (presS l).length := by rw [hp, presS_append]; simp only [presS, List.length_append]; omega
      have e1 := ih a (by rw [hp]; simp) (by omega)
      obtain ⟨_, e2, e3⟩ := deep_ev a (by omega)
      have hm0 : 0 ≤ mx n (deepS a) := by unfold mx; split <;> omega
      have hm1 : mx n (deepS a) ≤ ((presS l).length : Int) := by unfold mx; split <;> omega
      have d1 := iht (pre ++ [a]) (mx n (deepS a)) (by rw [hp]; simp) hm0 hm1
      refine Ev.step (f := fun k => (gristmillref09_Deep.f k a.f0 a.f1.f0 a.f1.f1 a.f1.f2 a.f2).bind fun t104 => if t104 > n then gristmillref09_Deep.l0 k t104 ((pre ++ [a]).length : Int) o v.f0 v.f1 v.f2 l else gristmillref09_Deep.l0 k n ((pre ++ [a]).length : Int) o v.f0 v.f1 v.f2 l) (fun k => ?_) (Ev.bind e1 ?_)
      · simp only [gristmillref09_Deep.l0]
        rw [if_pos (by omega), if_pos (by omega)]
        have hrd : rd_T35 l (pre.length : Int) = a := by rw [hp]; exact rd_at pre t a
        rw [hrd, wrap_nat (by omega)]
        simp
      · show Ev _ (deepsS (mx n (deepS a)) t + 1)
        unfold mx at d1 ⊢
        by_cases hd : deepS a > n
        · rw [if_pos (show n < deepS a from hd)] at d1 ⊢
          exact ev_pos hd d1
        · rw [if_neg (show ¬ n < deepS a from hd)] at d1 ⊢
          exact ev_neg hd d1
  exact Ev.step (fun k => by simp only [gristmillref09_Deep.f]; rfl) (key l [] 0 rfl (by omega) (by omega))
theorem shaped_ref (x : S35) : (preS x).length < 9223372036854775807 → Ev (fun k => gristmillref09_shaped.f k x.f0 x.f1.f0 x.f1.f1 x.f1.f2 x.f2) ((preS x).all okB) := by
  induction x using tree_ind with
  | h o v l ih =>
  intro hsz
  simp only [preS, List.length_cons, List.all_cons] at hsz ⊢
  have hll := kids_le l
  have key : ∀ (rest pre : List S35), l = pre ++ rest →
      Ev (fun k => gristmillref09_shaped.l0 k (pre.length : Int) o v.f0 v.f1 v.f2 l) ((presS rest).all okB) := by
    intro rest
    induction rest with
    | nil =>
      intro pre hp
      rw [List.append_nil] at hp
      subst hp
      refine ev_here fun k => ?_
      simp only [gristmillref09_shaped.l0]
      rw [if_neg (by omega)]
      rfl
    | cons a t iht =>
      intro pre hp
      have hlen : l.length = pre.length + (t.length + 1) := by rw [hp]; simp
      have hpa : (preS a).length ≤ (presS l).length := by rw [hp, presS_append]; simp only [presS, List.length_append]; omega
      have e1 := ih a (by rw [hp]; simp) (by omega)
      have d1 := iht (pre ++ [a]) (by rw [hp]; simp)
      refine Ev.step (f := fun k => (gristmillref09_shaped.f k a.f0 a.f1.f0 a.f1.f1 a.f1.f2 a.f2).bind fun t104 => if t104 = true then gristmillref09_shaped.l0 k ((pre ++ [a]).length : Int) o v.f0 v.f1 v.f2 l else some false) (fun k => ?_) (Ev.bind e1 ?_)
      · simp only [gristmillref09_shaped.l0]
        rw [if_pos (by omega), if_pos (by omega)]
        have hrd : rd_T35 l (pre.length : Int) = a := by rw [hp]; exact rd_at pre t a
        rw [hrd, wrap_nat (by omega)]
        simp
      · simp only [presS, List.all_append]
        cases h : (preS a).all okB
        · exact Ev.now _
        · exact ev_pos rfl d1
  have d := key l [] rfl
  refine Ev.step (fun k => by simp only [gristmillref09_shaped.f]; rfl) (Ev.bind (arity_ref o) ?_)
  unfold okB
  by_cases hq : (l.length : Int) = arityS o
  · rw [show (arityS o == (l.length : Int)) = true by rw [hq]; simp]
    exact ev_pos hq d
  · rw [show (arityS o == (l.length : Int)) = false by rw [beq_eq_false_iff_ne]; exact fun h => hq h.symm]
    exact ev_neg hq (Ev.now _)
theorem wide_ref (x : S35) : (preS x).length < 9223372036854775807 → Ev (fun k => gristmillref09_wide.f k x.f0 x.f1.f0 x.f1.f1 x.f1.f2 x.f2) ((preS x).any wideB) := by
  induction x using tree_ind with
  | h o v l ih =>
  intro hsz
  simp only [preS, List.length_cons, List.any_cons] at hsz ⊢
  have hll := kids_le l
  have key : ∀ (rest pre : List S35), l = pre ++ rest →
      Ev (fun k => gristmillref09_wide.l0 k (pre.length : Int) o v.f0 v.f1 v.f2 l) ((presS rest).any wideB) := by
    intro rest
    induction rest with
    | nil =>
      intro pre hp
      rw [List.append_nil] at hp
      subst hp
      refine ev_here fun k => ?_
      simp only [gristmillref09_wide.l0]
      rw [if_neg (by omega)]
      rfl
    | cons a t iht =>
      intro pre hp
      have hlen : l.length = pre.length + (t.length + 1) := by rw [hp]; simp
      have hpa : (preS a).length ≤ (presS l).length := by rw [hp, presS_append]; simp only [presS, List.length_append]; omega
      have e1 := ih a (by rw [hp]; simp) (by omega)
      have d1 := iht (pre ++ [a]) (by rw [hp]; simp)
      refine Ev.step (f := fun k => (gristmillref09_wide.f k a.f0 a.f1.f0 a.f1.f1 a.f1.f2 a.f2).bind fun t104 => if t104 = true then some true else gristmillref09_wide.l0 k ((pre ++ [a]).length : Int) o v.f0 v.f1 v.f2 l) (fun k => ?_) (Ev.bind e1 ?_)
      · simp only [gristmillref09_wide.l0]
        rw [if_pos (by omega), if_pos (by omega)]
        have hrd : rd_T35 l (pre.length : Int) = a := by rw [hp]; exact rd_at pre t a
        rw [hrd, wrap_nat (by omega)]
        simp
      · simp only [presS, List.any_append]
        cases h : (preS a).any wideB
        · exact ev_neg (by decide) d1
        · exact Ev.now _
  have d := key l [] rfl
  have j : ∀ b : Bool, Ev (fun k => gristmillref09_wide.j0 k b o v.f0 v.f1 v.f2 l) (b || (presS l).any wideB) := by
    intro b
    refine Ev.step (fun k => by simp only [gristmillref09_wide.j0]; rfl) ?_
    cases b
    · exact ev_neg (by decide) d
    · exact Ev.now _
  show Ev _ ((o == 0 && (v.f0 != 0 && decide ((65536 : Int) < (v.f2.size : Int)))) || (presS l).any wideB)
  refine Ev.step (fun k => by simp only [gristmillref09_wide.f]; rfl) ?_
  by_cases h0 : o = 0
  · refine ev_pos h0 ?_
    by_cases h1 : v.f0 = 0
    · refine ev_pos h1 ?_
      have e : ((o == 0 && (v.f0 != 0 && decide ((65536 : Int) < (v.f2.size : Int)))) || (presS l).any wideB) = (false || (presS l).any wideB) := by rw [h0, h1]; rfl
      rw [e]
      exact j false
    · refine ev_neg h1 ?_
      have e : ((o == 0 && (v.f0 != 0 && decide ((65536 : Int) < (v.f2.size : Int)))) || (presS l).any wideB) = (decide ((v.f2.size : Int) > 65536) || (presS l).any wideB) := by rw [show (v.f0 != 0) = true by simpa using h1, h0]; rfl
      rw [e]
      exact j _
  · refine ev_neg h0 ?_
    have e : ((o == 0 && (v.f0 != 0 && decide ((65536 : Int) < (v.f2.size : Int)))) || (presS l).any wideB) = (false || (presS l).any wideB) := by rw [show (o == 0) = false by simpa using h0]; rfl
    rw [e]
    exact j false
theorem right_ref (x : S35) (h : (preS x).length < 9223372036854775807) : Ev (fun k => gristmillref09_Right.f k x.f0 x.f1.f0 x.f1.f1 x.f1.f2 x.f2) (rv x) := by
  refine Ev.congr (fun k => by unfold gristmillref09_Right.f; rfl) (Ev.bind (size_ref x h) ?_)
  unfold rv rightS
  by_cases h0 : 200 < (preS x).length
  · rw [if_pos h0]
    exact ev_pos (show ((preS x).length : Int) > 200 by omega) (Ev.now _)
  · rw [if_neg h0]
    refine ev_neg (show ¬ ((preS x).length : Int) > 200 by omega) (Ev.bind (deep_ref x h) ?_)
    by_cases h1 : 20 < deepS x
    · rw [if_pos h1]
      exact ev_pos h1 (Ev.now _)
    · rw [if_neg h1]
      refine ev_neg h1 (Ev.bind (shaped_ref x h) ?_)
      unfold endS errOf
      cases (preS x).all okB
      · exact Ev.now _
      · refine ev_pos rfl (Ev.bind (wide_ref x h) ?_)
        cases (preS x).any wideB
        · exact Ev.now _
        · exact Ev.now _


end Go.Proofs.YtaebjcldopoccaaDoor.EsLaw
