/- The plain laws of the document's answers: arity, kinds, sizes, what may be, accumulators, jobs. No Go and no memory here. -/
import Derived.Test.YtejeaiplbhgfdaaCkx9
import Derived.Test.YtejeaiplbhgfdaaCkx10
import Derived.Test.YtejeaiplbhgfdaaCkx12
import Derived.Test.YtejeaiplbhgfdaaCkx14
import Derived.Test.YtejeaiplbhgfdaaCkLaw3
namespace Go.Proofs.Ytejeaiplbhgfdaa.CkLaw
open Go.RowKit Go.Proofs.YtejeaiplbhgfdaaW.PrintWords Go.Proofs.YtejeaiplbhgfdaaW.PrintLast Go.Proofs.YtejeaiplbhgfdaaW.PrintMore Go.Proofs.Ytejeaiplbhgfdaa.Ck Go.Proofs.Ytejeaiplbhgfdaa.CkIter Go.Proofs.Ytejeaiplbhgfdaa.CkFit

theorem arity_ref (op : Int) : Ev (fun k => gristmillref09_Arity.f k op) (arityS op) := by
  by_cases h : 0 ≤ op ∧ op ≤ 27
  · refine Ev.of (fun k => gristmillref09_Arity.mono op k) (k := 3) ?_
    rcases op_cases h.1 h.2 with h | h | h | h | h | h | h | h | h | h | h | h | h | h | h | h | h | h | h | h | h | h | h | h | h | h | h | h <;> subst h <;> rfl
  · refine ev_here (fun k => ?_)
    have ha : arityS op = -1 := by unfold arityS; rw [if_pos (by omega)]
    rw [ha]
    unfold gristmillref09_Arity.f
    by_cases h0 : op < 0
    · rw [if_pos h0]; rfl
    · rw [if_neg h0, decide_eq_true (by omega)]; rfl

theorem plain_ref (op kind st acc : Int) (t : S23) (l : List S26) (h0 : 0 ≤ op) (h1 : op < 8) (hl : l.length = 0) : Ev (fun k => gristmillref12_Kind.f k op kind t.f1 t.f2 l st acc) (plainS op kind st acc) := by
  have hop : op = 0 ∨ op = 1 ∨ op = 2 ∨ op = 3 ∨ op = 4 ∨ op = 5 ∨ op = 6 ∨ op = 7 := by omega
  refine Ev.of (fun k => gristmillref12_Kind.mono op kind t.f1 t.f2 l st acc k) (k := 5) ?_
  obtain rfl : l = [] := List.length_eq_zero_iff.1 hl
  rcases hop with h | h | h | h | h | h | h | h <;> subst h
  · by_cases hz : kind = 0
    · subst hz; rfl
    · simp [gristmillref12_Kind.f, gristmillref09_Arity.f, gristmillref09_Arity.j0, plainS, hz]
  all_goals
    by_cases a0 : st = 0
    · subst a0; rfl
    · by_cases a1 : st = 1
      · subst a1; rfl
      · by_cases a2 : st = 2
        · subst a2; rfl
        · simp [gristmillref12_Kind.f, gristmillref09_Arity.f, gristmillref09_Arity.j0, gristmillref12_Kind.j0, plainS, a0, a1, a2]

def okCase (op : Int) (ks : List Int) : Bool :=
  (match check_made.f 12 op ks with
   | some (n, _) => n == 0 || n == 1
   | none => false) && decide (((gristmillref12_Asks.f 12 op).bind fun t => gristmillref12_Kind.l1 12 ks t (-1) 0) = some (madeS op ks))
theorem case1 : ∀ op ∈ ([13, 18, 20, 23, 24, 26] : List Int), ∀ ks ∈ ([[0], [1]] : List (List Int)), okCase op ks = true := by decide +kernel
theorem case2 : ∀ op ∈ ([8, 9, 10, 11, 12, 14, 15, 16, 17, 21, 27] : List Int), ∀ ks ∈ ([[0, 0], [0, 1], [1, 0], [1, 1]] : List (List Int)), okCase op ks = true := by decide +kernel
theorem case3 : ∀ op ∈ ([19, 22, 25] : List Int), ∀ ks ∈ ([[0, 0, 0], [0, 0, 1], [0, 1, 0], [0, 1, 1], [1, 0, 0], [1, 0, 1], [1, 1, 0], [1, 1, 1]] : List (List Int)), okCase op ks = true := by decide +kernel
theorem case_of {op : Int} {ks : List Int} (h0 : 8 ≤ op) (h1 : op ≤ 27) (hl : arityS op = (ks.length : Int)) (hk : ∀ a, a ∈ ks → a = 0 ∨ a = 1) : okCase op ks = true := by
  have hop : op = 8 ∨ op = 9 ∨ op = 10 ∨ op = 11 ∨ op = 12 ∨ op = 13 ∨ op = 14 ∨ op = 15 ∨ op = 16 ∨ op = 17 ∨ op = 18 ∨ op = 19 ∨ op = 20 ∨ op = 21 ∨ op = 22 ∨ op = 23 ∨ op = 24 ∨ op = 25 ∨ op = 26 ∨ op = 27 := by omega
  have hks : (ks.length = 1 → ks ∈ ([[0], [1]] : List (List Int))) ∧ (ks.length = 2 → ks ∈ ([[0, 0], [0, 1], [1, 0], [1, 1]] : List (List Int))) ∧ (ks.length = 3 → ks ∈ ([[0, 0, 0], [0, 0, 1], [0, 1, 0], [0, 1, 1], [1, 0, 0], [1, 0, 1], [1, 1, 0], [1, 1, 1]] : List (List Int))) := by
    match ks, hk with
    | [], _ => simp
    | [a], hk => have ha := hk a (by simp); rcases ha with rfl | rfl <;> simp
    | [a, b], hk =>
      have ha := hk a (by simp)
      have hb := hk b (by simp)
      rcases ha with rfl | rfl <;> rcases hb with rfl | rfl <;> simp
    | [a, b, c], hk =>
      have ha := hk a (by simp)
      have hb := hk b (by simp)
      have hc := hk c (by simp)
      rcases ha with rfl | rfl <;> rcases hb with rfl | rfl <;> rcases hc with rfl | rfl <;> simp
    | _ :: _ :: _ :: _ :: _, _ => simp
  have hcases : (arityS op = 1 ∧ op ∈ ([13, 18, 20, 23, 24, 26] : List Int)) ∨ (arityS op = 2 ∧ op ∈ ([8, 9, 10, 11, 12, 14, 15, 16, 17, 21, 27] : List Int)) ∨ (arityS op = 3 ∧ op ∈ ([19, 22, 25] : List Int)) := by
    rcases hop with h | h | h | h | h | h | h | h | h | h | h | h | h | h | h | h | h | h | h | h <;> subst h <;> decide
  rcases hcases with ⟨ha, hm⟩ | ⟨ha, hm⟩ | ⟨ha, hm⟩
  · exact case1 op hm ks (hks.1 (by omega))
  · exact case2 op hm ks (hks.2.1 (by omega))
  · exact case3 op hm ks (hks.2.2 (by omega))
/-- What an op makes of kinds: for each op, and each list of kinds as long as it asks. -/
theorem made_both {op : Int} {ks : List Int} (h0 : 8 ≤ op) (h1 : op ≤ 27) (hl : arityS op = (ks.length : Int)) (hk : ∀ a, a ∈ ks → a = 0 ∨ a = 1) :
    (∃ n b, check_made.f 12 op ks = some (n, b) ∧ (n = 0 ∨ n = 1) ∧ madeS op ks = (if b = true then (n, 0) else (0, 120))) ∧ ((gristmillref12_Asks.f 12 op).bind fun t => gristmillref12_Kind.l1 12 ks t (-1) 0) = some (madeS op ks) := by
  have h := case_of h0 h1 hl hk
  unfold okCase at h
  rw [Bool.and_eq_true, decide_eq_true_eq] at h
  refine ⟨?_, h.2⟩
  have h2 := h.1
  unfold madeS
  cases hm : check_made.f 12 op ks with
  | none => rw [hm] at h2; cases h2
  | some p =>
    obtain ⟨n, b⟩ := p
    rw [hm] at h2
    simp at h2
    refine ⟨n, b, rfl, h2, ?_⟩
    cases b <;> rfl

theorem kinds_ref (st acc o : Int) (v : S23) (l : List S26) (h0 : 8 ≤ o) (h1 : o ≤ 27) (ha : arityS o = (l.length : Int))
    (ih : ∀ a, a ∈ l → ((kindS st acc a).1 = 0 ∨ (kindS st acc a).1 = 1) ∧ Ev (fun k => gristmillref12_Kind.f k a.f0 a.f1.f0 a.f1.f1 a.f1.f2 a.f2 st acc) (kindS st acc a)) :
    ∀ (rest pre : List S26) (ks : List Int), l = pre ++ rest → ks.length = pre.length → (∀ a, a ∈ ks → a = 0 ∨ a = 1) →
    Ev (fun k => gristmillref12_Kind.l0 k st acc (ks ++ List.replicate rest.length 0) (pre.length : Int) o v.f0 v.f1 v.f2 l) (rowS o ks (kindsS st acc rest)) := by
  obtain ⟨_, _, r2, _, _⟩ := arity_range ha
  intro rest
  induction rest with
  | nil =>
    intro pre ks hp hn hk
    rw [List.append_nil] at hp
    subst hp
    obtain ⟨_, hs⟩ := made_both h0 h1 (by rw [hn]; exact ha) hk
    have hr : rowS o ks (kindsS st acc []) = madeS o ks := by
      show madeS o (ks ++ []) = _
      rw [List.append_nil]
    rw [hr]
    obtain ⟨t, ht, hs⟩ := Option.bind_eq_some_iff.1 hs
    refine Ev.step (f := fun k => (gristmillref12_Asks.f k o).bind fun t191 => gristmillref12_Kind.l1 k ks t191 (-1) 0) (fun k => ?_) (Ev.bind (Ev.of (fun k => gristmillref12_Asks.mono o k) ht) (Ev.of (fun k => (gristmillref12_Kind.mono_l k).2.2.2.1 _ _ _ _) hs))
    simp only [gristmillref12_Kind.l0, List.length_nil, List.replicate_zero, List.append_nil]
    rw [if_neg (by omega)]
  | cons a t iht =>
    intro pre ks hp hn hk
    have hlen : l.length = pre.length + (t.length + 1) := by rw [hp]; simp
    obtain ⟨i1, i2⟩ := ih a (by rw [hp]; simp)
    have hstep : ∀ k, gristmillref12_Kind.l0 (k + 1) st acc (ks ++ List.replicate (a :: t).length 0) (pre.length : Int) o v.f0 v.f1 v.f2 l = ((gristmillref12_Kind.f k a.f0 a.f1.f0 a.f1.f1 a.f1.f2 a.f2 st acc).bind fun bt162 => if bt162.2 = 0 then gristmillref12_Kind.l0 k st acc ((ks ++ [bt162.1]) ++ List.replicate t.length 0) ((pre ++ [a]).length : Int) o v.f0 v.f1 v.f2 l else some (0, bt162.2)) := by
      intro k
      simp only [gristmillref12_Kind.l0]
      rw [if_pos (by omega), if_pos (by omega)]
      have hrd : rd_T26 l (pre.length : Int) = a := by rw [hp]; exact rd_at pre t a
      rw [hrd, wrap_nat (by omega)]
      have hset : ∀ n : Int, (ks ++ List.replicate (a :: t).length 0).set (pre.length : Int).toNat n = (ks ++ [n]) ++ List.replicate t.length 0 := by
        intro n
        rw [Int.toNat_natCast, ← hn, List.length_cons, List.replicate_succ, List.set_append_right _ _ (Nat.le_refl _)]
        simp
      have hlt : (pre.length : Int) < ((ks ++ List.replicate (a :: t).length 0).length : Int) := by simp [hn]; omega
      simp only [hset, hlt, if_true]
      simp
    by_cases hz : (kindS st acc a).2 = 0
    · have hk' : ∀ b, b ∈ ks ++ [(kindS st acc a).1] → b = 0 ∨ b = 1 := by
        intro b hb
        rcases List.mem_append.1 hb with hb | hb
        · exact hk b hb
        · rw [List.mem_singleton.1 hb]; exact i1
      have := iht (pre ++ [a]) (ks ++ [(kindS st acc a).1]) (by rw [hp]; simp) (by simp [hn]) hk'
      have hr : rowS o ks (kindsS st acc (a :: t)) = rowS o (ks ++ [(kindS st acc a).1]) (kindsS st acc t) := by
        simp only [kindsS]
        rw [if_pos hz]
        cases kindsS st acc t with
        | inl e => rfl
        | inr q => show madeS o (ks ++ (_ :: q)) = madeS o ((ks ++ [_]) ++ q); rw [List.append_assoc]; rfl
      rw [hr]
      exact Ev.step hstep (Ev.bind i2 (ev_pos hz this))
    · have hr : rowS o ks (kindsS st acc (a :: t)) = (0, (kindS st acc a).2) := by
        simp only [kindsS]
        rw [if_neg hz]
        rfl
      rw [hr]
      exact Ev.step hstep (Ev.bind i2 (ev_neg hz (Ev.now _)))

theorem kind_ref (st acc : Int) (hacc : acc = 0 ∨ acc = 1) (x : S26) : Fit26 x →
    Ev (fun k => gristmillref12_Kind.f k x.f0 x.f1.f0 x.f1.f1 x.f1.f2 x.f2 st acc) (kindS st acc x) := by
  induction x using tree_ind with
  | h o v l ih =>
  intro g
  have hg0 := g
  cases g with
  | mk o1 o2 hv hl hg =>
  by_cases ha : arityS o = (l.length : Int)
  · obtain ⟨r0, r1, r2, r3, r4⟩ := arity_range ha
    by_cases hz : l.length = 0
    · have hk : kindS st acc ⟨o, v, l⟩ = plainS o v.f0 st acc := by simp only [kindS]; rw [if_pos ha, if_pos hz]
      rw [hk]
      exact plain_ref o v.f0 st acc v l r0 (r3 hz) hz
    · have hk : kindS st acc ⟨o, v, l⟩ = rowS o [] (kindsS st acc l) := by
        simp only [kindS]
        rw [if_pos ha, if_neg hz]
        cases kindsS st acc l <;> rfl
      rw [hk]
      have e3 := kinds_ref st acc o v l (r4 hz) r1 ha (fun a h => ⟨(kind_impl st acc hacc a (hg a h)).1, ih a h (hg a h)⟩) l [] [] rfl rfl (fun a h => by cases h)
      refine Ev.step (f := fun k => (gristmillref09_Arity.f k o).bind fun t157 => (if t157 = (l.length : Int) then gristmillref12_Kind.l0 k st acc ([] ++ List.replicate l.length 0) 0 o v.f0 v.f1 v.f2 l else some (0, 3))) (fun k => ?_) (Ev.bind (arity_ref o) (ev_pos ha e3))
      have h8 := r4 hz
      simp only [gristmillref12_Kind.f]
      rw [if_neg (show ¬ o = 0 by omega), if_neg (show ¬ o < 8 by omega), if_pos (show (0 : Int) ≤ (l.length : Int) by omega), if_pos (by omega), Int.toNat_natCast]
      rfl
  · have hk : kindS st acc ⟨o, v, l⟩ = (0, 3) := by simp only [kindS]; rw [if_neg ha]
    rw [hk]
    refine Ev.step (fun k => by simp only [gristmillref12_Kind.f]; rfl) (Ev.bind (arity_ref o) (ev_neg ha (Ev.now _)))

/-! ### how great and deep, what may be -/
theorem kids_le (l : List S26) : l.length ≤ (presS l).length := by
  induction l with
  | nil => simp [presS]
  | cons a t iht =>
    have : 1 ≤ (preS a).length := by cases a; simp [preS]
    simp only [presS, List.length_append, List.length_cons]
    omega
theorem size_ref (x : S26) : (preS x).length < 9223372036854775807 → Ev (fun k => gristmillref09_Size.f k x.f0 x.f1.f0 x.f1.f1 x.f1.f2 x.f2) ((preS x).length : Int) := by
  induction x using tree_ind with
  | h o v l ih =>
  intro hsz
  simp only [preS, List.length_cons] at hsz ⊢
  have hll := kids_le l
  have key : ∀ (rest pre : List S26) (n : Nat), l = pre ++ rest → n + (presS rest).length = (presS l).length + 1 →
      Ev (fun k => gristmillref09_Size.l0 k (n : Int) (pre.length : Int) o v.f0 v.f1 v.f2 l) (((presS l).length + 1 : Nat) : Int) := by
    intro rest
    induction rest with
    | nil =>
      intro pre n hp hn
      rw [List.append_nil] at hp
      subst hp
      refine ev_here fun k => ?_
      simp only [gristmillref09_Size.l0]
      rw [if_neg (by omega)]
      simp only [presS, List.length_nil] at hn
      rw [← hn]
      rfl
    | cons a t iht =>
      intro pre n hp hn
      have hlen : l.length = pre.length + (t.length + 1) := by rw [hp]; simp
      simp only [presS, List.length_append] at hn
      have e1 := ih a (by rw [hp]; simp) (by omega)
      have d1 := iht (pre ++ [a]) (n + (preS a).length) (by rw [hp]; simp) (by omega)
      refine Ev.step (f := fun k => (gristmillref09_Size.f k a.f0 a.f1.f0 a.f1.f1 a.f1.f2 a.f2).bind fun s => gristmillref09_Size.l0 k (wrap64 ((n : Int) + s)) ((pre ++ [a]).length : Int) o v.f0 v.f1 v.f2 l) (fun k => ?_) (Ev.bind e1 ?_)
      · simp only [gristmillref09_Size.l0]
        rw [if_pos (by omega), if_pos (by omega)]
        have hrd : rd_T26 l (pre.length : Int) = a := by rw [hp]; exact rd_at pre t a
        rw [hrd, wrap_nat (by omega)]
        simp
      · have hw : wrap64 ((n : Int) + ((preS a).length : Int)) = ((n + (preS a).length : Nat) : Int) := by unfold wrap64; omega
        rw [hw]
        exact d1
  exact Ev.step (fun k => by simp only [gristmillref09_Size.f]; rfl) (key l [] 1 rfl (by omega))
theorem deep_ref (x : S26) : (preS x).length < 9223372036854775807 → Ev (fun k => gristmillref09_Deep.f k x.f0 x.f1.f0 x.f1.f1 x.f1.f2 x.f2) (deepS x) := by
  induction x using tree_ind with
  | h o v l ih =>
  intro hsz
  simp only [preS, List.length_cons] at hsz ⊢
  have hll := kids_le l
  have key : ∀ (rest pre : List S26) (n : Int), l = pre ++ rest → 0 ≤ n → n ≤ ((presS l).length : Int) →
      Ev (fun k => gristmillref09_Deep.l0 k n (pre.length : Int) o v.f0 v.f1 v.f2 l) (deepsS n rest + 1) := by
    intro rest
    induction rest with
    | nil =>
      intro pre n hp n0 n1
      rw [List.append_nil] at hp
      subst hp
      refine ev_here fun k => ?_
      simp only [gristmillref09_Deep.l0]
      rw [if_neg (by omega)]
      have : wrap64 (n + 1) = n + 1 := by unfold wrap64; omega
      rw [this]
      rfl
    | cons a t iht =>
      intro pre n hp n0 n1
      have hlen : l.length = pre.length + (t.length + 1) := by rw [hp]; simp
      have hpa : (preS a).length ≤ (presS l).length := by rw [hp, presS_append]; simp only [presS, List.length_append]; omega
      have e1 := ih a (by rw [hp]; simp) (by omega)
      obtain ⟨_, e2, e3⟩ := deep_ev a (by omega)
      have hm0 : 0 ≤ mx n (deepS a) := by unfold mx; split <;> omega
      have hm1 : mx n (deepS a) ≤ ((presS l).length : Int) := by unfold mx; split <;> omega
      have d1 := iht (pre ++ [a]) (mx n (deepS a)) (by rw [hp]; simp) hm0 hm1
      refine Ev.step (f := fun k => (gristmillref09_Deep.f k a.f0 a.f1.f0 a.f1.f1 a.f1.f2 a.f2).bind fun t104 => if t104 > n then gristmillref09_Deep.l0 k t104 ((pre ++ [a]).length : Int) o v.f0 v.f1 v.f2 l else gristmillref09_Deep.l0 k n ((pre ++ [a]).length : Int) o v.f0 v.f1 v.f2 l) (fun k => ?_) (Ev.bind e1 ?_)
      · simp only [gristmillref09_Deep.l0]
        rw [if_pos (by omega), if_pos (by omega)]
        have hrd : rd_T26 l (pre.length : Int) = a := by rw [hp]; exact rd_at pre t a
        rw [hrd, wrap_nat (by omega)]
        simp
      · show Ev _ (deepsS (mx n (deepS a)) t + 1)
        unfold mx at d1 ⊢
        by_cases hd : deepS a > n
        · rw [if_pos (show n < deepS a from hd)] at d1 ⊢
          exact ev_pos hd d1
        · rw [if_neg (show ¬ n < deepS a from hd)] at d1 ⊢
          exact ev_neg hd d1
  exact Ev.step (fun k => by simp only [gristmillref09_Deep.f]; rfl) (key l [] 0 rfl (by omega) (by omega))
theorem shaped_ref (x : S26) : (preS x).length < 9223372036854775807 → Ev (fun k => gristmillref09_shaped.f k x.f0 x.f1.f0 x.f1.f1 x.f1.f2 x.f2) ((preS x).all okB) := by
  induction x using tree_ind with
  | h o v l ih =>
  intro hsz
  simp only [preS, List.length_cons, List.all_cons] at hsz ⊢
  have hll := kids_le l
  have key : ∀ (rest pre : List S26), l = pre ++ rest →
      Ev (fun k => gristmillref09_shaped.l0 k (pre.length : Int) o v.f0 v.f1 v.f2 l) ((presS rest).all okB) := by
    intro rest
    induction rest with
    | nil =>
      intro pre hp
      rw [List.append_nil] at hp
      subst hp
      refine ev_here fun k => ?_
      simp only [gristmillref09_shaped.l0]
      rw [if_neg (by omega)]
      rfl
    | cons a t iht =>
      intro pre hp
      have hlen : l.length = pre.length + (t.length + 1) := by rw [hp]; simp
      have hpa : (preS a).length ≤ (presS l).length := by rw [hp, presS_append]; simp only [presS, List.length_append]; omega
      have e1 := ih a (by rw [hp]; simp) (by omega)
      have d1 := iht (pre ++ [a]) (by rw [hp]; simp)
      refine Ev.step (f := fun k => (gristmillref09_shaped.f k a.f0 a.f1.f0 a.f1.f1 a.f1.f2 a.f2).bind fun t104 => if t104 = true then gristmillref09_shaped.l0 k ((pre ++ [a]).length : Int) o v.f0 v.f1 v.f2 l else some false) (fun k => ?_) (Ev.bind e1 ?_)
      · simp only [gristmillref09_shaped.l0]
        rw [if_pos (by omega), if_pos (by omega)]
        have hrd : rd_T26 l (pre.length : Int) = a := by rw [hp]; exact rd_at pre t a
        rw [hrd, wrap_nat (by omega)]
        simp
      · simp only [presS, List.all_append]
        cases h : (preS a).all okB
        · exact Ev.now _
        · exact ev_pos rfl d1
  have d := key l [] rfl
  refine Ev.step (fun k => by simp only [gristmillref09_shaped.f]; rfl) (Ev.bind (arity_ref o) ?_)
  unfold okB
  by_cases hq : (l.length : Int) = arityS o
  · rw [show (arityS o == (l.length : Int)) = true by rw [hq]; simp]
    exact ev_pos hq d
  · rw [show (arityS o == (l.length : Int)) = false by rw [beq_eq_false_iff_ne]; exact fun h => hq h.symm]
    exact ev_neg hq (Ev.now _)
theorem wide_ref (x : S26) : (preS x).length < 9223372036854775807 → Ev (fun k => gristmillref09_wide.f k x.f0 x.f1.f0 x.f1.f1 x.f1.f2 x.f2) ((preS x).any wideB) := by
  induction x using tree_ind with
  | h o v l ih =>
  intro hsz
  simp only [preS, List.length_cons, List.any_cons] at hsz ⊢
  have hll := kids_le l
  have key : ∀ (rest pre : List S26), l = pre ++ rest →
      Ev (fun k => gristmillref09_wide.l0 k (pre.length : Int) o v.f0 v.f1 v.f2 l) ((presS rest).any wideB) := by
    intro rest
    induction rest with
    | nil =>
      intro pre hp
      rw [List.append_nil] at hp
      subst hp
      refine ev_here fun k => ?_
      simp only [gristmillref09_wide.l0]
      rw [if_neg (by omega)]
      rfl
    | cons a t iht =>
      intro pre hp
      have hlen : l.length = pre.length + (t.length + 1) := by rw [hp]; simp
      have hpa : (preS a).length ≤ (presS l).length := by rw [hp, presS_append]; simp only [presS, List.length_append]; omega
      have e1 := ih a (by rw [hp]; simp) (by omega)
      have d1 := iht (pre ++ [a]) (by rw [hp]; simp)
      refine Ev.step (f := fun k => (gristmillref09_wide.f k a.f0 a.f1.f0 a.f1.f1 a.f1.f2 a.f2).bind fun t104 => if t104 = true then some true else gristmillref09_wide.l0 k ((pre ++ [a]).length : Int) o v.f0 v.f1 v.f2 l) (fun k => ?_) (Ev.bind e1 ?_)
      · simp only [gristmillref09_wide.l0]
        rw [if_pos (by omega), if_pos (by omega)]
        have hrd : rd_T26 l (pre.length : Int) = a := by rw [hp]; exact rd_at pre t a
        rw [hrd, wrap_nat (by omega)]
        simp
      · simp only [presS, List.any_append]
        cases h : (preS a).any wideB
        · exact ev_neg (by decide) d1
        · exact Ev.now _
  have d := key l [] rfl
  have j : ∀ b : Bool, Ev (fun k => gristmillref09_wide.j0 k b o v.f0 v.f1 v.f2 l) (b || (presS l).any wideB) := by
    intro b
    refine Ev.step (fun k => by simp only [gristmillref09_wide.j0]; rfl) ?_
    cases b
    · exact ev_neg (by decide) d
    · exact Ev.now _
  show Ev _ ((o == 0 && (v.f0 != 0 && decide ((65536 : Int) < (v.f2.size : Int)))) || (presS l).any wideB)
  refine Ev.step (fun k => by simp only [gristmillref09_wide.f]; rfl) ?_
  by_cases h0 : o = 0
  · refine ev_pos h0 ?_
    by_cases h1 : v.f0 = 0
    · refine ev_pos h1 ?_
      have e : ((o == 0 && (v.f0 != 0 && decide ((65536 : Int) < (v.f2.size : Int)))) || (presS l).any wideB) = (false || (presS l).any wideB) := by rw [h0, h1]; rfl
      rw [e]
      exact j false
    · refine ev_neg h1 ?_
      have e : ((o == 0 && (v.f0 != 0 && decide ((65536 : Int) < (v.f2.size : Int)))) || (presS l).any wideB) = (decide ((v.f2.size : Int) > 65536) || (presS l).any wideB) := by rw [show (v.f0 != 0) = true by simpa using h1, h0]; rfl
      rw [e]
      exact j _
  · refine ev_neg h0 ?_
    have e : ((o == 0 && (v.f0 != 0 && decide ((65536 : Int) < (v.f2.size : Int)))) || (presS l).any wideB) = (false || (presS l).any wideB) := by rw [show (o == 0) = false by simpa using h0]; rfl
    rw [e]
    exact j false
theorem right_ref (x : S26) (h : (preS x).length < 9223372036854775807) : Ev (fun k => gristmillref09_Right.f k x.f0 x.f1.f0 x.f1.f1 x.f1.f2 x.f2) (rv x) := by
  refine Ev.congr (fun k => by unfold gristmillref09_Right.f; rfl) (Ev.bind (size_ref x h) ?_)
  unfold rv rightS
  by_cases h0 : 200 < (preS x).length
  · rw [if_pos h0]
    exact ev_pos (show ((preS x).length : Int) > 200 by omega) (Ev.now _)
  · rw [if_neg h0]
    refine ev_neg (show ¬ ((preS x).length : Int) > 200 by omega) (Ev.bind (deep_ref x h) ?_)
    by_cases h1 : 20 < deepS x
    · rw [if_pos h1]
      exact ev_pos h1 (Ev.now _)
    · rw [if_neg h1]
      refine ev_neg h1 (Ev.bind (shaped_ref x h) ?_)
      unfold endS errOf
      cases (preS x).all okB
      · exact Ev.now _
      · refine ev_pos rfl (Ev.bind (wide_ref x h) ?_)
        cases (preS x).any wideB
        · exact Ev.now _
        · exact Ev.now _

/-! ### the document's accumulator -/
theorem rstage_eq (nm : ByteArray) (ea : Int) (em : List S47) (fo : Int) (fin : S26) (co : Bool) (pa : Int) : gristmillref12_stage.f nm ea em fo fin.f0 fin.f1.f0 fin.f1.f1 fin.f1.f2 fin.f2 co pa = some (stageS ea) := by
  unfold gristmillref12_stage.f stageS
  split <;> rfl
theorem racc_ev (nm : ByteArray) (ea : Int) (em : List S47) (fo : Int) (fin : S26) (co : Bool) (pa : Int) (hm : ∀ m, m ∈ em → Fit47 m) :
    Ev (fun k => gristmillref12_Acc.f k nm ea em fo fin.f0 fin.f1.f0 fin.f1.f1 fin.f1.f2 fin.f2 co pa) (accS ea em fo) := by
  have j1 : ∀ b, Ev (fun k => gristmillref12_Acc.j1 k b nm ea em fo fin.f0 fin.f1.f0 fin.f1.f1 fin.f1.f2 fin.f2 co pa) (if b = true then (0, 3) else match em with
    | [] => (0, 3)
    | m :: _ => kindS (stageS ea) 0 m.f1) ∨ (b = false ∧ em = []) := by
    intro b
    cases b
    · cases em with
      | nil => exact .inr ⟨rfl, rfl⟩
      | cons m t =>
        refine .inl ?_
        obtain ⟨_, g1, _⟩ := hm m List.mem_cons_self
        refine Ev.step (f := fun k => (gristmillref12_Kind.f k m.f1.f0 m.f1.f1.f0 m.f1.f1.f1 m.f1.f1.f2 m.f1.f2 (stageS ea) 0).bind fun bt => some (bt.1, bt.2)) (fun k => ?_) (Ev.bind (kind_ref (stageS ea) 0 (.inl rfl) m.f1 g1) (Ev.now _))
        have hp : (0 : Int) < ((m :: t).length : Int) := by simp
        simp only [gristmillref12_Acc.j1]
        rw [if_neg (by decide), if_pos hp, rstage_eq]
        rfl
    · exact .inl (ev_here fun k => by simp only [gristmillref12_Acc.j1]; rfl)
  have j0 : ∀ b, b = commS fo → Ev (fun k => gristmillref12_Acc.j0 k b nm ea em fo fin.f0 fin.f1.f0 fin.f1.f1 fin.f1.f2 fin.f2 co pa) (accS ea em fo) := by
    intro b hb
    refine Ev.step (fun k => by simp only [gristmillref12_Acc.j0]; rfl) ?_
    unfold accS
    rw [hb]
    by_cases hc : commS fo = true
    · rw [if_pos hc]
      exact ev_pos hc (Ev.now _)
    · rw [if_neg hc]
      refine ev_neg hc ?_
      by_cases h4 : fo = 4
      · rw [if_pos h4]
        exact ev_pos h4 (Ev.now _)
      · rw [if_neg h4]
        refine ev_neg h4 ?_
        unfold foldBad
        have t1 := (j1 true).resolve_right (fun h => by cases h.1)
        by_cases h0 : fo < 0
        · rw [decide_eq_true h0]
          exact ev_pos h0 t1
        · refine ev_neg h0 ?_
          rw [decide_eq_false h0]
          by_cases h6 : fo > 6
          · rw [decide_eq_true (show 6 < fo from h6)]
            exact ev_pos h6 t1
          · rw [decide_eq_false (show ¬ 6 < fo from h6)]
            refine ev_neg h6 ?_
            cases em with
            | nil => exact t1
            | cons m t =>
              have hz : (((m :: t).length : Int) == 0) = false := by rw [beq_eq_false_iff_ne]; simp only [List.length_cons]; omega
              rw [hz]
              exact (j1 false).resolve_right (fun h => by cases h.2)
  unfold gristmillref12_Acc.f
  by_cases h : fo ≥ 0
  · refine ev_pos h (j0 _ ?_)
    unfold commS
    rw [decide_eq_true (show 0 ≤ fo from h)]
    rfl
  · refine ev_neg h (j0 _ ?_)
    unfold commS
    rw [decide_eq_false (show ¬ 0 ≤ fo from h)]
    rfl
end Go.Proofs.Ytejeaiplbhgfdaa.CkLaw
