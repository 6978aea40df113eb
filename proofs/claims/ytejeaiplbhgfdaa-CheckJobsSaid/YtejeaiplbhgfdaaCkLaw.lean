/- The plain laws of check.Kind: its kind or error, as a function on trees. No Go and no memory here. -/
import Derived.Test.YtejeaiplbhgfdaaCkx4
import Derived.Test.YtejeaiplbhgfdaaCkJobR
import Derived.Test.YtejeaiplbhgfdaaCkFit
namespace Go.Proofs.Ytejeaiplbhgfdaa.CkLaw
open Go.RowKit Go.Proofs.YtejeaiplbhgfdaaW.PrintWords Go.Proofs.YtejeaiplbhgfdaaW.PrintLast Go.Proofs.YtejeaiplbhgfdaaW.PrintMore Go.Proofs.Ytejeaiplbhgfdaa.Ck Go.Proofs.Ytejeaiplbhgfdaa.CkIter Go.Proofs.Ytejeaiplbhgfdaa.CkFit

theorem ev_pos {α : Type} {c : Prop} [Decidable c] {g f : Nat → Option α} {r : α} (hc : c) (h : Ev g r) : Ev (fun k => if c then g k else f k) r := Ev.congr (fun _ => if_pos hc) h
theorem ev_neg {α : Type} {c : Prop} [Decidable c] {g f : Nat → Option α} {r : α} (hc : ¬ c) (h : Ev f r) : Ev (fun k => if c then g k else f k) r := Ev.congr (fun _ => if_neg hc) h

/-! ### how much an expression weighs -/
mutual
def weighS : S26 → Int → Int
  | ⟨_, v, l⟩, left => weighsS l (left - 1 - (v.f2.size : Int))
def weighsS : List S26 → Int → Int
  | [], left => left
  | a :: t, left => if left ≥ 0 then weighsS t (weighS a left) else left
end

theorem weigh_ev (x : S26) : Fit26 x → ∀ left : Int, 0 ≤ left → left ≤ 3000 →
    Ev (fun k => gristmillref09_weigh.f k x.f0 x.f1.f0 x.f1.f1 x.f1.f2 x.f2 left) (weighS x left) ∧ -9223372036854775808 ≤ weighS x left ∧ weighS x left ≤ 3000 := by
  induction x using tree_ind with
  | h o v l ih =>
  intro g left h0 h1
  cases g with
  | mk o1 o2 hv hl hg =>
  have hs := hv.2.2.2.2
  have key : ∀ (rest pre : List S26) (y : Int), l = pre ++ rest → -9223372036854775808 ≤ y → y ≤ 3000 →
      Ev (fun k => gristmillref09_weigh.l0 k y (pre.length : Int) o v.f0 v.f1 v.f2 l) (weighsS rest y) ∧ -9223372036854775808 ≤ weighsS rest y ∧ weighsS rest y ≤ 3000 := by
    intro rest
    induction rest with
    | nil =>
      intro pre y hp y0 y1
      rw [List.append_nil] at hp
      subst hp
      refine ⟨ev_here fun k => ?_, y0, y1⟩
      simp only [gristmillref09_weigh.l0]
      rw [if_neg (by omega)]
      rfl
    | cons a t iht =>
      intro pre y hp y0 y1
      have hlen : l.length = pre.length + (t.length + 1) := by rw [hp]; simp
      have hlt : (pre.length : Int) < (l.length : Int) := by omega
      by_cases hy : y ≥ 0
      · obtain ⟨e1, e2, e3⟩ := ih a (by rw [hp]; simp) (hg a (by rw [hp]; simp)) y hy y1
        obtain ⟨d1, d2, d3⟩ := iht (pre ++ [a]) (weighS a y) (by rw [hp]; simp) e2 e3
        have hw : weighsS (a :: t) y = weighsS t (weighS a y) := by simp only [weighsS]; rw [if_pos hy]
        rw [hw]
        refine ⟨Ev.step (f := fun k => (gristmillref09_weigh.f k a.f0 a.f1.f0 a.f1.f1 a.f1.f2 a.f2 y).bind fun t103 => gristmillref09_weigh.l0 k t103 ((pre ++ [a]).length : Int) o v.f0 v.f1 v.f2 l) (fun k => ?_) (Ev.bind e1 d1), d2, d3⟩
        simp only [gristmillref09_weigh.l0]
        rw [if_pos hlt, if_pos hy, if_pos (by omega), hp, rd_at, wrap_nat (by omega)]
        simp
      · have hw : weighsS (a :: t) y = y := by simp only [weighsS]; rw [if_neg hy]
        rw [hw]
        refine ⟨ev_here fun k => ?_, y0, y1⟩
        simp only [gristmillref09_weigh.l0]
        rw [if_pos hlt, if_neg hy]
  have hw : wrap64 (wrap64 (left - 1) - (v.f2.size : Int)) = left - 1 - (v.f2.size : Int) := by
    unfold wrap64
    omega
  obtain ⟨d1, d2, d3⟩ := key l [] (left - 1 - (v.f2.size : Int)) rfl (by omega) (by omega)
  refine ⟨Ev.step (f := fun k => gristmillref09_weigh.l0 k (left - 1 - (v.f2.size : Int)) 0 o v.f0 v.f1 v.f2 l) (fun k => ?_) d1, d2, d3⟩
  simp only [gristmillref09_weigh.f]
  rw [hw]

theorem big_ev (x : S26) (g : Fit26 x) : Ev (fun k => gristmillref09_Big.f k x.f0 x.f1.f0 x.f1.f1 x.f1.f2 x.f2) (decide (weighS x 3000 < 0)) := by
  have h := (weigh_ev x g 3000 (by omega) (by omega)).1
  exact Ev.congr (f := fun k => (gristmillref09_weigh.f k x.f0 x.f1.f0 x.f1.f1 x.f1.f2 x.f2 3000).bind fun t105 => some (decide (t105 < 0))) (fun k => rfl) (Ev.bind h (Ev.now _))

/-! ### kinds -/
def plainS (op kind st acc : Int) : Int × Int :=
  if op = 0 then (if kind = 0 then 0 else 1, 0)
  else if (if op = 1 ∨ op = 2 then st = 0 ∨ st = 1 else if op = 3 ∨ op = 4 then st = 1 else st = 2) then (if op = 1 ∨ op = 3 ∨ op = 5 then 1 else if op = 6 then acc else 0, 0) else (0, 121)
def madeS (op : Int) (ks : List Int) : Int × Int :=
  match check_made.f 12 op ks with
  | some (n, true) => (n, 0)
  | _ => (0, 120)
mutual
def kindS (st acc : Int) : S26 → Int × Int
  | ⟨o, v, l⟩ => if arityS o = (l.length : Int) then (if l.length = 0 then plainS o v.f0 st acc else match kindsS st acc l with | .inl e => (0, e) | .inr ks => madeS o ks) else (0, 3)
def kindsS (st acc : Int) : List S26 → Sum Int (List Int)
  | [] => .inr []
  | a :: t => if (kindS st acc a).2 = 0 then (match kindsS st acc t with | .inl e => .inl e | .inr ks => .inr ((kindS st acc a).1 :: ks)) else .inl (kindS st acc a).2
end

theorem plain_impl (op kind st acc : Int) (t : S23) (l : List S26) (h0 : 0 ≤ op) (h1 : op < 8) (hk : 0 ≤ kind) (hk1 : kind ≤ 255) : Ev (fun k => check_plain.f k op kind t.f1 t.f2 l st acc) (plainS op kind st acc) := by
  have hop : op = 0 ∨ op = 1 ∨ op = 2 ∨ op = 3 ∨ op = 4 ∨ op = 5 ∨ op = 6 ∨ op = 7 := by omega
  refine Ev.of (fun k => check_plain.mono op kind t.f1 t.f2 l st acc k) (k := 3) ?_
  rcases hop with h | h | h | h | h | h | h | h <;> subst h
  · by_cases hz : kind = 0
    · subst hz; rfl
    · unfold check_plain.f plainS mn
      simp [hz]
      omega
  all_goals
    by_cases a0 : st = 0
    · subst a0; rfl
    · by_cases a1 : st = 1
      · subst a1; rfl
      · by_cases a2 : st = 2
        · subst a2; rfl
        · simp [check_plain.f, check_hand.f, check_hand.j0, check_plain.j0, plainS, a0, a1, a2]
          try (intro h; omega)


def okI (op : Int) (ks : List Int) : Bool :=
  match check_made.f 12 op ks with
  | some (n, _) => n == 0 || n == 1
  | none => false
theorem case1I : ∀ op ∈ ([13, 18, 20, 23, 24, 26] : List Int), ∀ ks ∈ ([[0], [1]] : List (List Int)), okI op ks = true := by decide +kernel
theorem case2I : ∀ op ∈ ([8, 9, 10, 11, 12, 14, 15, 16, 17, 21, 27] : List Int), ∀ ks ∈ ([[0, 0], [0, 1], [1, 0], [1, 1]] : List (List Int)), okI op ks = true := by decide +kernel
theorem case3I : ∀ op ∈ ([19, 22, 25] : List Int), ∀ ks ∈ ([[0, 0, 0], [0, 0, 1], [0, 1, 0], [0, 1, 1], [1, 0, 0], [1, 0, 1], [1, 1, 0], [1, 1, 1]] : List (List Int)), okI op ks = true := by decide +kernel
theorem case_ofI {op : Int} {ks : List Int} (h0 : 8 ≤ op) (h1 : op ≤ 27) (hl : arityS op = (ks.length : Int)) (hk : ∀ a, a ∈ ks → a = 0 ∨ a = 1) : okI op ks = true := by
  have hop : op = 8 ∨ op = 9 ∨ op = 10 ∨ op = 11 ∨ op = 12 ∨ op = 13 ∨ op = 14 ∨ op = 15 ∨ op = 16 ∨ op = 17 ∨ op = 18 ∨ op = 19 ∨ op = 20 ∨ op = 21 ∨ op = 22 ∨ op = 23 ∨ op = 24 ∨ op = 25 ∨ op = 26 ∨ op = 27 := by omega
  have hks : (ks.length = 1 → ks ∈ ([[0], [1]] : List (List Int))) ∧ (ks.length = 2 → ks ∈ ([[0, 0], [0, 1], [1, 0], [1, 1]] : List (List Int))) ∧ (ks.length = 3 → ks ∈ ([[0, 0, 0], [0, 0, 1], [0, 1, 0], [0, 1, 1], [1, 0, 0], [1, 0, 1], [1, 1, 0], [1, 1, 1]] : List (List Int))) := by
    match ks, hk with
    | [], _ => simp
    | [a], hk => have ha := hk a (by simp); rcases ha with rfl | rfl <;> simp
    | [a, b], hk =>
      have ha := hk a (by simp)
      have hb := hk b (by simp)
      rcases ha with rfl | rfl <;> rcases hb with rfl | rfl <;> simp
    | [a, b, c], hk =>
      have ha := hk a (by simp)
      have hb := hk b (by simp)
      have hc := hk c (by simp)
      rcases ha with rfl | rfl <;> rcases hb with rfl | rfl <;> rcases hc with rfl | rfl <;> simp
    | _ :: _ :: _ :: _ :: _, _ => simp
  have hcases : (arityS op = 1 ∧ op ∈ ([13, 18, 20, 23, 24, 26] : List Int)) ∨ (arityS op = 2 ∧ op ∈ ([8, 9, 10, 11, 12, 14, 15, 16, 17, 21, 27] : List Int)) ∨ (arityS op = 3 ∧ op ∈ ([19, 22, 25] : List Int)) := by
    rcases hop with h | h | h | h | h | h | h | h | h | h | h | h | h | h | h | h | h | h | h | h <;> subst h <;> decide
  rcases hcases with ⟨ha, hm⟩ | ⟨ha, hm⟩ | ⟨ha, hm⟩
  · exact case1I op hm ks (hks.1 (by omega))
  · exact case2I op hm ks (hks.2.1 (by omega))
  · exact case3I op hm ks (hks.2.2 (by omega))
/-- What an op makes of kinds: for each op, and each list of kinds as long as it asks. -/
theorem made_impl {op : Int} {ks : List Int} (h0 : 8 ≤ op) (h1 : op ≤ 27) (hl : arityS op = (ks.length : Int)) (hk : ∀ a, a ∈ ks → a = 0 ∨ a = 1) :
    ∃ n b, check_made.f 12 op ks = some (n, b) ∧ (n = 0 ∨ n = 1) ∧ madeS op ks = (if b = true then (n, 0) else (0, 120)) := by
  have h2 := case_ofI h0 h1 hl hk
  unfold okI at h2
  unfold madeS
  cases hm : check_made.f 12 op ks with
  | none => rw [hm] at h2; cases h2
  | some p =>
    obtain ⟨n, b⟩ := p
    rw [hm] at h2
    simp at h2
    refine ⟨n, b, rfl, h2, ?_⟩
    cases b <;> rfl

theorem arity_range {op : Int} {n : Nat} (h : arityS op = (n : Int)) : 0 ≤ op ∧ op ≤ 27 ∧ n ≤ 3 ∧ (n = 0 → op < 8) ∧ (n ≠ 0 → 8 ≤ op) := by
  unfold arityS at h
  split at h
  · omega
  · split at h
    · omega
    · split at h
      · omega
      · split at h <;> omega

theorem plain_01 (op kind st acc : Int) (hacc : acc = 0 ∨ acc = 1) : (plainS op kind st acc).1 = 0 ∨ (plainS op kind st acc).1 = 1 := by
  unfold plainS
  repeat' split
  all_goals first | exact .inl rfl | exact .inr rfl | exact hacc

/-- What is reckoned of the kinds of a row of arguments. -/
def rowS (o : Int) (ks : List Int) : Sum Int (List Int) → Int × Int
  | .inl e => (0, e)
  | .inr ks' => madeS o (ks ++ ks')

theorem kinds_impl (st acc o : Int) (v : S23) (l : List S26) (h0 : 8 ≤ o) (h1 : o ≤ 27) (ha : arityS o = (l.length : Int))
    (ih : ∀ a, a ∈ l → ((kindS st acc a).1 = 0 ∨ (kindS st acc a).1 = 1) ∧ Ev (fun k => check_Kind.f k a.f0 a.f1.f0 a.f1.f1 a.f1.f2 a.f2 st acc) (kindS st acc a)) :
    ∀ (rest pre : List S26) (ks : List Int), l = pre ++ rest → ks.length = pre.length → (∀ a, a ∈ ks → a = 0 ∨ a = 1) →
    Ev (fun k => check_Kind.l0 k st acc ks l (l.length : Int) (pre.length : Int) o v.f0 v.f1 v.f2 l) (rowS o ks (kindsS st acc rest)) ∧ ((rowS o ks (kindsS st acc rest)).1 = 0 ∨ (rowS o ks (kindsS st acc rest)).1 = 1) := by
  obtain ⟨_, _, r2, _, _⟩ := arity_range ha
  intro rest
  induction rest with
  | nil =>
    intro pre ks hp hn hk
    rw [List.append_nil] at hp
    subst hp
    obtain ⟨n, b, hm, hn01, hs⟩ := made_impl h0 h1 (by rw [hn]; exact ha) hk
    have hr : rowS o ks (kindsS st acc []) = (if b = true then (n, 0) else (0, 120)) := by
      show madeS o (ks ++ []) = _
      rw [List.append_nil, hs]
    rw [hr]
    refine ⟨Ev.step (f := fun k => (check_made.f k o ks).bind fun bt167 => (if bt167.2 = true then some (bt167.1, 0) else some (0, 120))) (fun k => ?_) (Ev.bind (Ev.of (fun k => check_made.mono o ks k) hm) ?_), ?_⟩
    · simp only [check_Kind.l0]
      rw [if_neg (by omega)]
    · cases b
      · exact Ev.now _
      · exact Ev.now _
    · cases b
      · exact .inl rfl
      · exact hn01
  | cons a t iht =>
    intro pre ks hp hn hk
    have hlen : l.length = pre.length + (t.length + 1) := by rw [hp]; simp
    obtain ⟨i1, i2⟩ := ih a (by rw [hp]; simp)
    have hstep : ∀ k, check_Kind.l0 (k + 1) st acc ks l (l.length : Int) (pre.length : Int) o v.f0 v.f1 v.f2 l = ((check_Kind.f k a.f0 a.f1.f0 a.f1.f1 a.f1.f2 a.f2 st acc).bind fun bt162 => if bt162.2 = 0 then check_Kind.l0 k st acc (ks ++ [bt162.1]) l (l.length : Int) ((pre ++ [a]).length : Int) o v.f0 v.f1 v.f2 l else some (0, bt162.2)) := by
      intro k
      simp only [check_Kind.l0]
      rw [if_pos (by omega), if_pos (by omega), if_pos (by omega)]
      have hlt : ks.length < 140737488355328 := by omega
      simp only [hlt, if_true]
      have hrd : rd_T26 l (pre.length : Int) = a := by rw [hp]; exact rd_at pre t a
      rw [hrd, wrap_nat (by omega)]
      simp
    by_cases hz : (kindS st acc a).2 = 0
    · have hk' : ∀ b, b ∈ ks ++ [(kindS st acc a).1] → b = 0 ∨ b = 1 := by
        intro b hb
        rcases List.mem_append.1 hb with hb | hb
        · exact hk b hb
        · rw [List.mem_singleton.1 hb]; exact i1
      have := iht (pre ++ [a]) (ks ++ [(kindS st acc a).1]) (by rw [hp]; simp) (by simp [hn]) hk'
      have hr : rowS o ks (kindsS st acc (a :: t)) = rowS o (ks ++ [(kindS st acc a).1]) (kindsS st acc t) := by
        simp only [kindsS]
        rw [if_pos hz]
        cases kindsS st acc t with
        | inl e => rfl
        | inr q => show madeS o (ks ++ (_ :: q)) = madeS o ((ks ++ [_]) ++ q); rw [List.append_assoc]; rfl
      rw [hr]
      exact ⟨Ev.step hstep (Ev.bind i2 (ev_pos hz this.1)), this.2⟩
    · have hr : rowS o ks (kindsS st acc (a :: t)) = (0, (kindS st acc a).2) := by
        simp only [kindsS]
        rw [if_neg hz]
        rfl
      rw [hr]
      exact ⟨Ev.step hstep (Ev.bind i2 (ev_neg hz (Ev.now _))), .inl rfl⟩

/-- What check.Kind makes of any expression. -/
theorem kind_impl (st acc : Int) (hacc : acc = 0 ∨ acc = 1) (x : S26) : Fit26 x →
    ((kindS st acc x).1 = 0 ∨ (kindS st acc x).1 = 1) ∧ Ev (fun k => check_Kind.f k x.f0 x.f1.f0 x.f1.f1 x.f1.f2 x.f2 st acc) (kindS st acc x) := by
  induction x using tree_ind with
  | h o v l ih =>
  intro g
  cases g with
  | mk o1 o2 hv hl hg =>
  by_cases ha : arityS o = (l.length : Int)
  · obtain ⟨r0, r1, r2, r3, r4⟩ := arity_range ha
    by_cases hz : l.length = 0
    · have hk : kindS st acc ⟨o, v, l⟩ = plainS o v.f0 st acc := by simp only [kindS]; rw [if_pos ha, if_pos hz]
      rw [hk]
      refine ⟨plain_01 o v.f0 st acc hacc, ?_⟩
      refine Ev.step (f := fun k => (expr_Arity.f k o).bind fun t157 => (if t157 = (l.length : Int) then (check_plain.f k o v.f0 v.f1 v.f2 l st acc).bind (fun bt158 => some (bt158.1, bt158.2)) else some (0, 3))) (fun k => ?_) (Ev.bind (arity_impl o) (ev_pos ha (Ev.bind (plain_impl o v.f0 st acc v l r0 (r3 hz) hv.1 hv.2.1) (Ev.now _))))
      simp only [check_Kind.f]
      rw [if_pos (show (l.length : Int) = 0 by omega)]
    · have hk : kindS st acc ⟨o, v, l⟩ = rowS o [] (kindsS st acc l) := by
        simp only [kindS]
        rw [if_pos ha, if_neg hz]
        cases kindsS st acc l <;> rfl
      rw [hk]
      obtain ⟨e1, e2⟩ := kinds_impl st acc o v l (r4 hz) r1 ha (fun a h => ih a h (hg a h)) l [] [] rfl rfl (fun a h => by cases h)
      refine ⟨e2, ?_⟩
      refine Ev.step (f := fun k => (expr_Arity.f k o).bind fun t157 => (if t157 = (l.length : Int) then check_Kind.l0 k st acc [] l (l.length : Int) 0 o v.f0 v.f1 v.f2 l else some (0, 3))) (fun k => ?_) (Ev.bind (arity_impl o) (ev_pos ha e1))
      simp only [check_Kind.f]
      rw [if_neg (show ¬ (l.length : Int) = 0 by omega)]
  · have hk : kindS st acc ⟨o, v, l⟩ = (0, 3) := by simp only [kindS]; rw [if_neg ha]
    rw [hk]
    refine ⟨.inl rfl, ?_⟩
    refine Ev.step (fun k => by simp only [check_Kind.f]; rfl) (Ev.bind (arity_impl o) (ev_neg ha (Ev.now _)))
theorem live_ev : Ev (fun k => gristmilllaw12_live.f k) true := Ev.of (fun k => gristmilllaw12_live.mono k) (k := 20) (by decide +kernel)
end Go.Proofs.Ytejeaiplbhgfdaa.CkLaw
