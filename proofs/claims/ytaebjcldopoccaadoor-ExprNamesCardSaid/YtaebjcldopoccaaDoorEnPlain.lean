/- The plain law of ExprNames: the loop over the names, the search, the arities. No Go and no memory here. -/
import Derived.Test.YtaebjcldopoccaaDoorEnLaw
set_option linter.unusedVariables false
set_option linter.unusedSimpArgs false
namespace Go.Proofs.YtaebjcldopoccaaDoor.En
open Go.RowKit Go.Proofs.YtaebjcldopoccaaDoorW.PrintWords Go.Proofs.YtaebjcldopoccaaDoorW.PrintLast Go.Proofs.YtaebjcldopoccaaDoorW.PrintMore

def arityS (op : Int) : Int :=
  if op < 0 ∨ 27 < op then -1 else if op < 8 then 0 else if op = 13 ∨ op = 18 ∨ op = 20 ∨ op = 23 ∨ op = 24 ∨ op = 26 then 1 else if op = 19 ∨ op = 22 ∨ op = 25 then 3 else 2
theorem op_cases {op : Int} (h0 : 0 ≤ op) (h1 : op ≤ 27) : op = 0 ∨ op = 1 ∨ op = 2 ∨ op = 3 ∨ op = 4 ∨ op = 5 ∨ op = 6 ∨ op = 7 ∨ op = 8 ∨ op = 9 ∨ op = 10 ∨ op = 11 ∨ op = 12 ∨ op = 13 ∨ op = 14 ∨ op = 15 ∨ op = 16 ∨ op = 17 ∨ op = 18 ∨ op = 19 ∨ op = 20 ∨ op = 21 ∨ op = 22 ∨ op = 23 ∨ op = 24 ∨ op = 25 ∨ op = 26 ∨ op = 27 := by omega
theorem arity_impl (op : Int) : Ev (fun k => expr_Arity.f k op) (arityS op) := by
  by_cases h : 0 ≤ op ∧ op ≤ 27
  · refine Ev.of (fun k => expr_Arity.mono op k) (k := 3) ?_
    rcases op_cases h.1 h.2 with h | h | h | h | h | h | h | h | h | h | h | h | h | h | h | h | h | h | h | h | h | h | h | h | h | h | h | h <;> subst h <;> rfl
  · refine Ev.congr (f := fun _ => some (arityS op)) (fun k => ?_) (Ev.now _)
    have ha : arityS op = -1 := by unfold arityS; rw [if_pos (by omega)]
    rw [ha]
    show (expr_known.f op).bind _ = _
    have hk : expr_known.f op = some false := by
      unfold expr_known.f
      by_cases h0 : op ≥ 0
      · rw [if_pos h0, decide_eq_false (by omega)]
      · rw [if_neg h0]
    rw [hk]
    rfl
theorem arity_ref (op : Int) : Ev (fun k => gristmillref09_Arity.f k op) (arityS op) := by
  by_cases h : 0 ≤ op ∧ op ≤ 27
  · refine Ev.of (fun k => gristmillref09_Arity.mono op k) (k := 3) ?_
    rcases op_cases h.1 h.2 with h | h | h | h | h | h | h | h | h | h | h | h | h | h | h | h | h | h | h | h | h | h | h | h | h | h | h | h <;> subst h <;> rfl
  · refine ev_here (fun k => ?_)
    have ha : arityS op = -1 := by unfold arityS; rw [if_pos (by omega)]
    rw [ha]
    unfold gristmillref09_Arity.f
    by_cases h0 : op < 0
    · rw [if_pos h0]; rfl
    · rw [if_neg h0, decide_eq_true (by omega)]; rfl


theorem ev_pos {α : Type} {c : Prop} [Decidable c] {g f : Nat → Option α} {r : α} (hc : c) (h : Ev g r) : Ev (fun k => if c then g k else f k) r := Ev.congr (fun _ => if_pos hc) h
theorem ev_neg {α : Type} {c : Prop} [Decidable c] {g f : Nat → Option α} {r : α} (hc : ¬ c) (h : Ev f r) : Ev (fun k => if c then g k else f k) r := Ev.congr (fun _ => if_neg hc) h
/-! ### the names -/
def NM : List ByteArray := (expr_names.f).getD []
theorem nm_impl : expr_names.f = some NM := rfl
theorem nm_ref : gristmillref09_Names.f = some NM := rfl
theorem nm_len : NM.length = 28 := rfl
def LM : List (List UInt8) := NM.map fun s => s.data.toList
theorem toL (a b : ByteArray) : (a.toList = b.toList) ↔ (a.data.toList = b.data.toList) := by rw [ByteArray.toList_eq, ByteArray.toList_eq]
theorem lm_at (n : Nat) (h : n < 28) : (rdOf ByteArray.empty NM (n : Int)).data.toList = LM.getD n [] := by
  have hn : n = 0 ∨ n = 1 ∨ n = 2 ∨ n = 3 ∨ n = 4 ∨ n = 5 ∨ n = 6 ∨ n = 7 ∨ n = 8 ∨ n = 9 ∨ n = 10 ∨ n = 11 ∨ n = 12 ∨ n = 13 ∨ n = 14 ∨ n = 15 ∨ n = 16 ∨ n = 17 ∨ n = 18 ∨ n = 19 ∨ n = 20 ∨ n = 21 ∨ n = 22 ∨ n = 23 ∨ n = 24 ∨ n = 25 ∨ n = 26 ∨ n = 27 := by omega
  rcases hn with h | h | h | h | h | h | h | h | h | h | h | h | h | h | h | h | h | h | h | h | h | h | h | h | h | h | h | h <;> subst h <;> rfl
def atL (t : List UInt8) : Nat → Int × Bool
  | 0 => (0, false)
  | n + 1 => if LM.getD n [] = t then ((n : Int), true) else atL t n
def idxL (t : List UInt8) (k : Int) : List (List UInt8) → Int
  | [] => -1
  | a :: r => if t = a then k else idxL t (k + 1) r
theorem at_idx (t : List UInt8) : atL t 28 = (mx (idxL t 0 LM) 0, decide (idxL t 0 LM ≥ 0)) := by
  by_cases h : t ∈ LM
  · have h2 : ∀ t ∈ LM, atL t 28 = (mx (idxL t 0 LM) 0, decide (idxL t 0 LM ≥ 0)) := by decide +kernel
    exact h2 t h
  · have h1 : ∀ n, n ≤ 28 → atL t n = (0, false) := by
      intro n
      induction n with
      | zero => intro _; rfl
      | succ n ih =>
        intro hn
        have : ¬ LM.getD n [] = t := by
          intro e
          have hl : n < LM.length := by show n < 28; omega
          rw [List.getD_eq_getElem?_getD, List.getElem?_eq_getElem hl] at e
          exact h (e ▸ List.getElem_mem hl)
        unfold atL
        rw [if_neg this]
        exact ih (by omega)
    have h2 : ∀ (l : List (List UInt8)) (k : Int), (∀ a, a ∈ l → a ∈ LM) → idxL t k l = -1 := by
      intro l
      induction l with
      | nil => intro _ _; rfl
      | cons a r ih =>
        intro k hm
        unfold idxL
        rw [if_neg (fun e : t = a => h (e ▸ hm a List.mem_cons_self))]
        exact ih _ (fun b hb => hm b (List.mem_cons_of_mem _ hb))
    rw [h1 28 (Nat.le_refl _), h2 LM 0 (fun _ h => h)]
    rfl
theorem index_ev (s : ByteArray) : Ev (fun k => slices_Index_string_string.f k NM s) (idxL s.data.toList 0 LM) := by
  have loop : ∀ (d n : Nat), n + d = 28 → Ev (fun k => slices_Index_string_string.l0 k NM s (28 : Int) (n : Int)) (idxL s.data.toList (n : Int) (LM.drop n)) := by
    intro d
    induction d with
    | zero =>
      intro n hn
      obtain rfl : n = 28 := by omega
      refine ev_here fun k => ?_
      simp only [slices_Index_string_string.l0]
      rw [if_neg (by omega)]
      rfl
    | succ d ih =>
      intro n hn
      have hl : n < LM.length := by show n < 28; omega
      rw [List.drop_eq_getElem_cons hl]
      have hat := lm_at n (by omega)
      rw [List.getD_eq_getElem?_getD, List.getElem?_eq_getElem hl, Option.getD_some] at hat
      refine Ev.step (fun k => by simp only [slices_Index_string_string.l0]; rw [if_pos (show (n : Int) < 28 by omega), if_pos (show (0 : Int) ≤ (n : Int) by omega), if_pos (show (n : Int) < (NM.length : Int) by rw [nm_len]; omega), wrap_nat (by omega)]) ?_
      unfold idxL
      by_cases he : s.data.toList = LM[n]
      · rw [if_pos he]
        exact ev_pos ((toL _ _).2 (he.trans hat.symm)) (Ev.now _)
      · rw [if_neg he]
        refine ev_neg (fun e => he (((toL _ _).1 e).trans hat)) ?_
        simpa using ih (n + 1) (by omega)
  exact loop 28 0 rfl
theorem find_ev (s : ByteArray) : Ev (fun k => expr_Find.f k s) (atL s.data.toList 28) := by
  rw [at_idx]
  refine Ev.congr (fun k => by unfold expr_Find.f; rw [nm_impl]; rfl) (Ev.bind (index_ev s) (Ev.now _))
def wantL (op : Int) (n : Nat) : ByteArray := if 0 ≤ op ∧ op < (n : Int) then rdOf ByteArray.empty NM op else ⟨#[]⟩
theorem name_eq (op : Int) : expr_Name.f op = some (wantL op 28) := by
  unfold expr_Name.f expr_known.f wantL
  by_cases h0 : op ≥ 0
  · rw [if_pos h0]
    by_cases h1 : op < 28
    · simp only [Option.bind_some, h1, decide_true, if_true, nm_impl]
      rw [if_pos (show (0 : Int) ≤ op by omega), if_pos (show op < (NM.length : Int) by rw [nm_len]; omega), if_pos ⟨by omega, by omega⟩]
    · simp only [Option.bind_some, h1, decide_false, Bool.false_eq_true, if_false]
      rw [if_neg (fun h => h1 h.2)]
  · rw [if_neg h0]
    simp only [Option.bind_some, Bool.false_eq_true, if_false]
    rw [if_neg (fun h => h0 h.1)]
theorem want_next (op : Int) (n : Nat) : wantL op (n + 1) = if (n : Int) = op then rdOf ByteArray.empty NM (n : Int) else wantL op n := by
  unfold wantL
  by_cases h : (n : Int) = op
  · rw [if_pos h, if_pos ⟨by omega, by omega⟩, h]
  · rw [if_neg h]
    by_cases h2 : 0 ≤ op ∧ op < (n : Int)
    · rw [if_pos h2, if_pos ⟨h2.1, by omega⟩]
    · rw [if_neg h2, if_neg (fun h3 => h2 ⟨h3.1, by omega⟩)]
theorem names_ev (op : Int) (s : ByteArray) (hs : s.size ≤ 2000) : ∀ (d n : Nat), n + d = 28 →
    Ev (fun k => gristmilllaw09_ExprNames.l0 k op s (wantL op n) (atL s.data.toList n).1 (atL s.data.toList n).2 (n : Int)) true := by
  intro d
  induction d with
  | zero =>
    intro n hn
    obtain rfl : n = 28 := by omega
    refine Ev.step (fun k => by simp only [gristmilllaw09_ExprNames.l0]; rw [nm_ref]; simp only [Option.bind_some]; rw [if_neg (by rw [nm_len]; omega)]) (Ev.bind (find_ev s) ?_)
    refine Ev.congr (fun k => by rw [name_eq]; simp only [Option.bind_some, if_true]; rfl) (Ev.bind (arity_impl op) (Ev.bind (arity_ref op) ?_))
    refine ev_pos rfl (ev_pos (by simp) ?_)
    refine Ev.congr (fun k => by unfold expr_Quote.f; rw [if_pos (by omega)]; rfl) (Ev.bind (quote_ref s (by omega)) ?_)
    exact ev_pos rfl (Ev.now _)
  | succ d ih =>
    intro n hn
    have hnx := ih (n + 1) (by omega)
    have hat := lm_at n (by omega)
    have hlt : (n : Int) < (NM.length : Int) := by rw [nm_len]; omega
    have e1 : atL s.data.toList (n + 1) = if LM.getD n [] = s.data.toList then ((n : Int), true) else atL s.data.toList n := rfl
    rw [want_next, e1] at hnx
    by_cases hq : (n : Int) = op
    · rw [if_pos hq] at hnx
      refine Ev.step (f := fun k => if (rdOf ByteArray.empty NM (n : Int)).toList = s.toList then gristmilllaw09_ExprNames.l0 k op s (rdOf ByteArray.empty NM (n : Int)) (n : Int) true ((n + 1 : Nat) : Int) else gristmilllaw09_ExprNames.l0 k op s (rdOf ByteArray.empty NM (n : Int)) (atL s.data.toList n).1 (atL s.data.toList n).2 ((n + 1 : Nat) : Int)) (fun k => by simp only [gristmilllaw09_ExprNames.l0]; rw [nm_ref]; simp only [Option.bind_some]; rw [if_pos hlt, if_pos hq, if_pos (show (0 : Int) ≤ (n : Int) by omega), if_pos hlt, if_pos hlt, wrap_nat (by omega)]) ?_
      by_cases he : LM.getD n [] = s.data.toList
      · rw [if_pos he] at hnx
        exact ev_pos ((toL _ _).2 (hat.trans he)) hnx
      · rw [if_neg he] at hnx
        exact ev_neg (fun e => he (hat.symm.trans ((toL _ _).1 e))) hnx
    · rw [if_neg hq] at hnx
      refine Ev.step (f := fun k => if (rdOf ByteArray.empty NM (n : Int)).toList = s.toList then gristmilllaw09_ExprNames.l0 k op s (wantL op n) (n : Int) true ((n + 1 : Nat) : Int) else gristmilllaw09_ExprNames.l0 k op s (wantL op n) (atL s.data.toList n).1 (atL s.data.toList n).2 ((n + 1 : Nat) : Int)) (fun k => by simp only [gristmilllaw09_ExprNames.l0]; rw [nm_ref]; simp only [Option.bind_some]; rw [if_pos hlt, if_neg hq, if_pos (show (0 : Int) ≤ (n : Int) by omega), if_pos hlt, wrap_nat (by omega)]) ?_
      by_cases he : LM.getD n [] = s.data.toList
      · rw [if_pos he] at hnx
        exact ev_pos ((toL _ _).2 (hat.trans he)) hnx
      · rw [if_neg he] at hnx
        exact ev_neg (fun e => he (hat.symm.trans ((toL _ _).1 e))) hnx
theorem law_ev (op : Int) (s : ByteArray) : Ev (fun k => gristmilllaw09_ExprNames.f k op s) true := by
  unfold gristmilllaw09_ExprNames.f
  by_cases h : (s.size : Int) > 2000
  · exact ev_pos h (Ev.now _)
  · refine ev_neg h ?_
    have h0 : wantL op 0 = (⟨#[]⟩ : ByteArray) := if_neg (fun h => by omega)
    have := names_ev op s (by omega) 28 0 rfl
    rw [h0] at this
    exact this
end Go.Proofs.YtaebjcldopoccaaDoor.En
