/- When two expressions are the same: the plain law, the document's answer, and two texts of expressions that may be. No Go and no memory here. -/
import Derived.Test.YtaebjcldopoccaaDoorEsLawS
import Derived.Test.YtaebjcldopoccaaDoorEyx2
set_option linter.unusedVariables false
set_option linter.unusedSimpArgs false
namespace Go.Proofs.YtaebjcldopoccaaDoor.EsSame
open Go.RowKit Go.Proofs.YtaebjcldopoccaaDoorW.PrintWords Go.Proofs.YtaebjcldopoccaaDoorW.PrintLast Go.Proofs.YtaebjcldopoccaaDoorW.PrintMore Go.Proofs.YtaebjcldopoccaaDoor.Es Go.Proofs.YtaebjcldopoccaaDoor.EsIter Go.Proofs.YtaebjcldopoccaaDoor.EsLaw Go.Proofs.YtaebjcldopoccaaDoor.EsText Go.Proofs.YtaebjcldopoccaaDoor.EsTextC Go.Proofs.YtaebjcldopoccaaDoor.EsRefT Go.Proofs.YtaebjcldopoccaaDoor.EsLawS

/-- Two values are the same. -/
def sameV (v u : S32) : Bool := if v.f0 = 0 then decide (u.f0 = 0) && decide (v.f1 = u.f1) else decide (u.f0 ≠ 0) && decide (v.f2 = u.f2)
mutual
/-- Two expressions are the same. -/
def sameS : S35 → S35 → Bool
  | ⟨o, v, l⟩, ⟨p, u, m⟩ => decide (o = p) && ((if o = 0 then sameV v u else true) && samesS l m)
def samesS : List S35 → List S35 → Bool
  | [], [] => true
  | a :: t, b :: s => sameS a b && samesS t s
  | [], _ :: _ => false
  | _ :: _, [] => false
end
theorem sames_len {l m : List S35} (h : samesS l m = true) : l.length = m.length := by
  induction l generalizing m with
  | nil => cases m with
    | nil => rfl
    | cons b s => simp [samesS] at h
  | cons a t ih => cases m with
    | nil => simp [samesS] at h
    | cons b s =>
      simp only [samesS, Bool.and_eq_true] at h
      simp [ih h.2]
theorem same_refl (x : S35) : sameS x x = true := by
  induction x using tree_ind with
  | h o v l ih =>
  have key : ∀ rest : List S35, (∀ a, a ∈ rest → a ∈ l) → samesS rest rest = true := by
    intro rest
    induction rest with
    | nil => intro _; rfl
    | cons a t iht =>
      intro hm
      simp only [samesS, ih a (hm a List.mem_cons_self), iht (fun b hb => hm b (List.mem_cons_of_mem _ hb)), Bool.and_self]
  have hv : sameV v v = true := by
    unfold sameV
    split <;> simp_all
  simp only [sameS, decide_true, hv, key l (fun a h => h), Bool.and_true, Bool.true_and]
  split <;> rfl

/-! ### the document's Same -/
theorem less_ev (a b : ByteArray) (ha : a.size ≤ 9223372036854775807) (hb : b.size ≤ 9223372036854775807) : ∃ r, Ev (fun k => gristmillref04_Less.f k a b) r ∧ (a = b → r = false) := by
  have key : ∀ (d n : Nat), n + d = a.size → ∃ r, Ev (fun k => gristmillref04_Less.l0 k a b (n : Int)) r ∧ (a = b → r = false) := by
    intro d
    induction d with
    | zero =>
      intro n hn
      refine ⟨decide ((a.size : Int) < (b.size : Int)), ?_, fun h => by subst h; simp⟩
      refine Ev.step (f := fun k => gristmillref04_Less.j1 k a b (n : Int) false) (fun k => by simp only [gristmillref04_Less.l0]; rw [if_neg (by omega)]) ?_
      exact ev_here fun k => by simp only [gristmillref04_Less.j1]; rfl
    | succ d ih =>
      intro n hn
      have hlt : (n : Int) < (a.size : Int) := by omega
      by_cases hb2 : (n : Int) < (b.size : Int)
      · by_cases he : bt a (n : Int) = bt b (n : Int)
        · obtain ⟨r, h1, h2⟩ := ih (n + 1) (by omega)
          refine ⟨r, ?_, h2⟩
          refine Ev.step (f := fun k => gristmillref04_Less.j1 k a b (n : Int) true) (fun k => by simp only [gristmillref04_Less.l0]; rw [if_pos hlt, decide_eq_true hb2]) ?_
          refine Ev.step (f := fun k => gristmillref04_Less.l0 k a b ((n + 1 : Nat) : Int)) (fun k => ?_) h1
          simp only [gristmillref04_Less.j1, if_true]
          rw [if_pos (by omega), if_pos hlt, if_pos hb2, if_pos he, wrap_nat (by omega)]
        · refine ⟨decide (bt a (n : Int) < bt b (n : Int)), ?_, fun h => absurd (by rw [h]) he⟩
          refine Ev.step (f := fun k => gristmillref04_Less.j1 k a b (n : Int) true) (fun k => by simp only [gristmillref04_Less.l0]; rw [if_pos hlt, decide_eq_true hb2]) ?_
          refine ev_here fun k => ?_
          simp only [gristmillref04_Less.j1, if_true]
          rw [if_pos (by omega), if_pos hlt, if_pos hb2, if_neg he]
      · refine ⟨decide ((a.size : Int) < (b.size : Int)), ?_, fun h => by subst h; simp⟩
        refine Ev.step (f := fun k => gristmillref04_Less.j1 k a b (n : Int) false) (fun k => by simp only [gristmillref04_Less.l0]; rw [if_pos hlt, decide_eq_false hb2]) ?_
        exact ev_here fun k => by simp only [gristmillref04_Less.j1]; rfl
  obtain ⟨r, h1, h2⟩ := key a.size 0 (by omega)
  exact ⟨r, h1, h2⟩
theorem toList_eq_iff (a b : ByteArray) : a.toList = b.toList ↔ a = b := by
  rw [ByteArray.toList_eq, ByteArray.toList_eq]
  constructor
  · intro h
    apply ByteArray.ext
    exact Array.toList_inj.1 h
  · intro h; rw [h]
theorem sameV_num {v u : S32} (h : v.f0 = 0) (h2 : u.f0 = 0) : sameV v u = decide (v.f1 = u.f1) := by unfold sameV; rw [if_pos h, decide_eq_true h2]; rfl
theorem sameV_l {v u : S32} (h : v.f0 = 0) (h2 : u.f0 ≠ 0) : sameV v u = false := by unfold sameV; rw [if_pos h, decide_eq_false h2]; rfl
theorem sameV_r {v u : S32} (h : v.f0 ≠ 0) (h2 : u.f0 = 0) : sameV v u = false := by unfold sameV; rw [if_neg h, decide_eq_false (by simpa using h2)]; rfl
theorem sameV_str {v u : S32} (h : v.f0 ≠ 0) (h2 : u.f0 ≠ 0) : sameV v u = decide (v.f2 = u.f2) := by unfold sameV; rw [if_neg h, decide_eq_true h2]; rfl
theorem order_ev (v u : S32) (gv : V32 v) (gu : V32 u) : ∃ t, Ev (fun k => gristmillref08_Order.f k v.f0 v.f1 v.f2 u.f0 u.f1 u.f2) t ∧ (t == 0) = sameV v u := by
  by_cases hv : v.f0 = 0
  · by_cases hu : u.f0 = 0
    · rw [sameV_num hv hu]
      have st : ∀ r, (if v.f1 < u.f1 then some (-1) else if v.f1 > u.f1 then some 1 else some 0) = some r → Ev (fun k => gristmillref08_Order.f k v.f0 v.f1 v.f2 u.f0 u.f1 u.f2) r := by
        intro r hr
        refine ev_here fun k => ?_
        unfold gristmillref08_Order.f
        rw [if_pos hv, show (u.f0 == 0) = true by simpa using hu]
        simp only [gristmillref08_Order.j0, if_true]
        exact hr
      by_cases h1 : v.f1 < u.f1
      · exact ⟨-1, st _ (if_pos h1), by rw [decide_eq_false (by omega)]; rfl⟩
      · by_cases h2 : v.f1 > u.f1
        · exact ⟨1, st _ (by rw [if_neg h1, if_pos h2]), by rw [decide_eq_false (by omega)]; rfl⟩
        · exact ⟨0, st _ (by rw [if_neg h1, if_neg h2]), by rw [decide_eq_true (by omega)]; rfl⟩
    · rw [sameV_l hv hu]
      refine ⟨-1, ev_here fun k => ?_, rfl⟩
      unfold gristmillref08_Order.f
      rw [if_pos hv, show (u.f0 == 0) = false by simpa using hu]
      simp only [gristmillref08_Order.j0, Bool.false_eq_true, if_false]
      rw [if_pos hv]
  · by_cases hu : u.f0 = 0
    · rw [sameV_r hv hu]
      refine ⟨1, ev_here fun k => ?_, rfl⟩
      unfold gristmillref08_Order.f
      rw [if_neg hv]
      simp only [gristmillref08_Order.j0, Bool.false_eq_true, if_false]
      rw [if_neg hv, if_pos hu]
    · rw [sameV_str hv hu]
      obtain ⟨r, h1, h2⟩ := less_ev v.f2 u.f2 gv.2.2.2.2 gu.2.2.2.2
      have st : ∀ r', (if r = true then some (-1) else if v.f2.toList = u.f2.toList then some 0 else some 1) = some r' → Ev (fun k => gristmillref08_Order.f k v.f0 v.f1 v.f2 u.f0 u.f1 u.f2) r' := by
        intro r' hr
        refine Ev.step (f := fun k => (gristmillref04_Less.f k v.f2 u.f2).bind fun t103 => if t103 = true then some (-1) else if v.f2.toList = u.f2.toList then some 0 else some 1) (fun k => ?_) (Ev.bind h1 ?_)
        · unfold gristmillref08_Order.f
          rw [if_neg hv]
          simp only [gristmillref08_Order.j0, Bool.false_eq_true, if_false]
          rw [if_neg hv, if_neg hu]
        · exact Ev.congr (fun _ => hr) (Ev.now r')
      by_cases hr : r = true
      · refine ⟨-1, st _ (if_pos hr), ?_⟩
        rw [decide_eq_false (fun h => by rw [h2 h] at hr; cases hr)]
        rfl
      · by_cases he : v.f2.toList = u.f2.toList
        · refine ⟨0, st _ (by rw [if_neg hr, if_pos he]), ?_⟩
          rw [decide_eq_true ((toList_eq_iff _ _).1 he)]
          rfl
        · refine ⟨1, st _ (by rw [if_neg hr, if_neg he]), ?_⟩
          rw [decide_eq_false (fun h => he (by rw [h]))]
          rfl
theorem same08_ev (v u : S32) (gv : V32 v) (gu : V32 u) : Ev (fun k => gristmillref08_Same.f k v.f0 v.f1 v.f2 u.f0 u.f1 u.f2) (sameV v u) := by
  obtain ⟨t, h, e⟩ := order_ev v u gv gu
  rw [← e]
  exact Ev.congr (f := fun k => (gristmillref08_Order.f k v.f0 v.f1 v.f2 u.f0 u.f1 u.f2).bind fun t106 => some (t106 == 0)) (fun k => rfl) (Ev.bind h (Ev.now _))
theorem samesS_ne {l m : List S35} (h : l.length ≠ m.length) : samesS l m = false := by
  cases hs : samesS l m
  · rfl
  · exact absurd (sames_len hs) h
theorem same09_ev (x : S35) : Fit35 x → ∀ y, Fit35 y → Ev (fun k => gristmillref09_Same.f k x.f0 x.f1.f0 x.f1.f1 x.f1.f2 x.f2 y.f0 y.f1.f0 y.f1.f1 y.f1.f2 y.f2) (sameS x y) := by
  induction x using tree_ind with
  | h o v l ih =>
  intro gx y gy
  obtain ⟨p, u, m⟩ := y
  cases gx with
  | mk o1 o2 hv hl hg =>
  cases gy with
  | mk p1 p2 hu hm hgm =>
  have key : ∀ (rest pre rest' pre' : List S35), l = pre ++ rest → m = pre' ++ rest' → pre.length = pre'.length → rest.length = rest'.length →
      Ev (fun k => gristmillref09_Same.l0 k (pre.length : Int) o v.f0 v.f1 v.f2 l p u.f0 u.f1 u.f2 m) (samesS rest rest') := by
    intro rest
    induction rest with
    | nil =>
      intro pre rest' pre' hp hp' he her
      have : rest' = [] := List.length_eq_zero_iff.1 (by simpa using her.symm)
      subst this
      rw [List.append_nil] at hp
      subst hp
      refine ev_here fun k => ?_
      simp only [gristmillref09_Same.l0]
      rw [if_neg (by omega)]
      rfl
    | cons a t iht =>
      intro pre rest' pre' hp hp' he her
      cases rest' with
      | nil => simp at her
      | cons b s =>
      have hlen : l.length = pre.length + (t.length + 1) := by rw [hp]; simp
      have hlen' : m.length = pre'.length + (s.length + 1) := by rw [hp']; simp
      have e1 := ih a (by rw [hp]; simp) (hg a (by rw [hp]; simp)) b (hgm b (by rw [hp']; simp))
      have d1 := iht (pre ++ [a]) s (pre' ++ [b]) (by rw [hp]; simp) (by rw [hp']; simp) (by simp [he]) (by simpa using her)
      refine Ev.step (f := fun k => (gristmillref09_Same.f k a.f0 a.f1.f0 a.f1.f1 a.f1.f2 a.f2 b.f0 b.f1.f0 b.f1.f1 b.f1.f2 b.f2).bind fun t112 => if t112 = true then gristmillref09_Same.l0 k ((pre ++ [a]).length : Int) o v.f0 v.f1 v.f2 l p u.f0 u.f1 u.f2 m else some false) (fun k => ?_) (Ev.bind e1 ?_)
      · simp only [gristmillref09_Same.l0]
        simp only [List.length_cons] at her
        rw [if_pos (by omega), if_pos (by omega), if_pos (by omega)]
        have hrd : rd_T35 l (pre.length : Int) = a := by rw [hp]; exact rd_at pre t a
        have hrd' : rd_T35 m (pre.length : Int) = b := by rw [hp', he]; exact rd_at pre' s b
        rw [hrd, hrd', wrap_nat (by omega)]
        simp
      · simp only [samesS]
        cases h : sameS a b
        · exact Ev.now _
        · exact ev_pos rfl d1
  have j : ∀ b : Bool, l.length = m.length → Ev (fun k => gristmillref09_Same.j0 k b o v.f0 v.f1 v.f2 l p u.f0 u.f1 u.f2 m) (!b && samesS l m) := by
    intro b he
    have d := key l [] m [] rfl rfl rfl he
    refine Ev.step (fun k => by simp only [gristmillref09_Same.j0]; rfl) ?_
    cases b
    · exact ev_neg (by decide) d
    · exact Ev.now _
  have jt : Ev (fun k => gristmillref09_Same.j0 k true o v.f0 v.f1 v.f2 l p u.f0 u.f1 u.f2 m) false := ev_here fun k => by simp only [gristmillref09_Same.j0, if_true]
  refine Ev.step (fun k => by simp only [gristmillref09_Same.f]; rfl) ?_
  simp only [sameS]
  by_cases h0 : o = p
  · rw [decide_eq_true h0, Bool.true_and]
    refine ev_pos h0 ?_
    by_cases h1 : l.length = m.length
    · refine ev_pos (show (l.length : Int) = (m.length : Int) by omega) ?_
      by_cases h2 : o = 0
      · rw [if_pos h2]
        refine ev_pos h2 (Ev.bind (same08_ev v u hv hu) ?_)
        have := j (!(sameV v u)) h1
        rw [Bool.not_not] at this
        exact this
      · rw [if_neg h2, Bool.true_and]
        refine ev_neg h2 ?_
        have := j false h1
        simpa using this
    · rw [samesS_ne h1, Bool.and_false]
      exact ev_neg (show ¬ (l.length : Int) = (m.length : Int) by omega) jt
  · rw [decide_eq_false h0, Bool.false_and]
    exact ev_neg h0 jt
end Go.Proofs.YtaebjcldopoccaaDoor.EsSame
