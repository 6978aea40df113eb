/- The plain laws of job.Right, check.Acc and check.Job. No Go and no memory here. -/
import Derived.Test.YtejeaiplbhgfdaaCkx7
import Derived.Test.YtejeaiplbhgfdaaCkGiven
import Derived.Test.YtejeaiplbhgfdaaCkLaw
namespace Go.Proofs.Ytejeaiplbhgfdaa.CkLaw
open Go.RowKit Go.Proofs.YtejeaiplbhgfdaaW.PrintWords Go.Proofs.YtejeaiplbhgfdaaW.PrintLast Go.Proofs.YtejeaiplbhgfdaaW.PrintMore Go.Proofs.Ytejeaiplbhgfdaa.Ck Go.Proofs.Ytejeaiplbhgfdaa.CkIter Go.Proofs.Ytejeaiplbhgfdaa.CkFit

/-! ### what is not big has few parts -/
theorem weigh_len (x : S26) : ∀ left : Int, 0 ≤ weighS x left → ((preS x).length : Int) + weighS x left ≤ left := by
  induction x using tree_ind with
  | h o v l ih =>
  have key : ∀ (rest : List S26) (y : Int), (∀ a, a ∈ rest → a ∈ l) → 0 ≤ weighsS rest y → ((presS rest).length : Int) + weighsS rest y ≤ y := by
    intro rest
    induction rest with
    | nil => intro y _ h; simp only [weighsS, presS, List.length_nil] at h ⊢; omega
    | cons a t iht =>
      intro y hm h
      by_cases hy : y ≥ 0
      · have hw : weighsS (a :: t) y = weighsS t (weighS a y) := by simp only [weighsS]; rw [if_pos hy]
        rw [hw] at h ⊢
        have h1 := iht (weighS a y) (fun b hb => hm b (List.mem_cons_of_mem _ hb)) h
        have h2 := ih a (hm a List.mem_cons_self) y (by omega)
        simp only [presS, List.length_append]
        omega
      · have hw : weighsS (a :: t) y = y := by simp only [weighsS]; rw [if_neg hy]
        rw [hw] at h
        omega
  intro left h
  have hw : weighS ⟨o, v, l⟩ left = weighsS l (left - 1 - (v.f2.size : Int)) := by simp only [weighS]
  rw [hw] at h ⊢
  have := key l _ (fun a h => h) h
  simp only [preS, List.length_cons]
  omega
def bigS (x : S26) : Bool := decide (weighS x 3000 < 0)
theorem small_of {x : S26} (h : bigS x = false) : (preS x).length ≤ 3000 := by
  unfold bigS at h
  have h := of_decide_eq_false h
  have := weigh_len x 3000 (by omega)
  omega

theorem rd47_at (pre rest : List S47) (m : S47) : rd_T47 (pre ++ m :: rest) (pre.length : Int) = m := by
  unfold rd_T47
  rw [Int.toNat_natCast, List.getD_eq_getElem?_getD, List.getElem?_append_right (Nat.le_refl _)]
  simp

/-! ### big jobs -/
def bigM (m : S47) : Bool := bigS m.f0 || (bigS m.f1 || bigS m.f2)
def bigJ (nm : ByteArray) (em : List S47) (fin : S26) : Bool := decide ((em.length : Int) > 20) || (decide ((nm.size : Int) > 200) || (bigS fin || em.any bigM))
theorem bigJ_ev (nm : ByteArray) (ea : Int) (em : List S47) (fo : Int) (fin : S26) (co : Bool) (pa : Int) (hl : em.length ≤ 9223372036854775807) (hm : ∀ m, m ∈ em → Fit47 m) (hf : Fit26 fin) :
    Ev (fun k => gristmillref11_Big.f k nm ea em fo fin.f0 fin.f1.f0 fin.f1.f1 fin.f1.f2 fin.f2 co pa) (bigJ nm em fin) := by
  have loop : em.length ≤ 20 → ∀ (rest pre : List S47), em = pre ++ rest → Ev (fun k => gristmillref11_Big.l0 k (pre.length : Int) nm ea em fo fin.f0 fin.f1.f0 fin.f1.f1 fin.f1.f2 fin.f2 co pa) (rest.any bigM) := by
    intro h20 rest
    induction rest with
    | nil =>
      intro pre hp
      rw [List.append_nil] at hp
      subst hp
      refine ev_here fun k => ?_
      simp only [gristmillref11_Big.l0]
      rw [if_neg (by omega)]
      rfl
    | cons m t ih =>
      intro pre hp
      have hlen : em.length = pre.length + (t.length + 1) := by rw [hp]; simp
      obtain ⟨f0, f1, f2⟩ := hm m (by rw [hp]; simp)
      have hrd : rd_T47 em (pre.length : Int) = m := by rw [hp]; exact rd47_at pre t m
      have hnext := ih (pre ++ [m]) (by rw [hp]; simp)
      refine Ev.step (fun k => ?_) (Ev.bind (big_ev m.f0 f0) (f := fun k t189 => if t189 = true then some true else (gristmillref09_Big.f k m.f1.f0 m.f1.f1.f0 m.f1.f1.f1 m.f1.f1.f2 m.f1.f2).bind fun t191 => (if t191 = true then some true else (gristmillref09_Big.f k m.f2.f0 m.f2.f1.f0 m.f2.f1.f1 m.f2.f1.f2 m.f2.f2).bind fun t193 => (if t193 = true then some true else gristmillref11_Big.l0 k ((pre ++ [m]).length : Int) nm ea em fo fin.f0 fin.f1.f0 fin.f1.f1 fin.f1.f2 fin.f2 co pa))) ?_)
      · simp only [gristmillref11_Big.l0]
        rw [if_pos (by omega), if_pos (by omega), hrd, wrap_nat (by omega)]
        simp
      · have e0 : (m :: t).any bigM = (bigM m || t.any bigM) := rfl
        rw [e0]
        unfold bigM
        show Ev _ (decide (weighS m.f0 3000 < 0) || (bigS m.f1 || bigS m.f2) || t.any bigM)
        by_cases h0 : decide (weighS m.f0 3000 < 0) = true
        · rw [h0]; exact ev_pos rfl (Ev.now _)
        · rw [Bool.not_eq_true] at h0
          rw [h0]
          refine ev_neg (by decide) (Ev.bind (big_ev m.f1 f1) ?_)
          show Ev _ (false || (decide (weighS m.f1 3000 < 0) || bigS m.f2) || t.any bigM)
          by_cases h1 : decide (weighS m.f1 3000 < 0) = true
          · rw [h1]; exact ev_pos rfl (Ev.now _)
          · rw [Bool.not_eq_true] at h1
            rw [h1]
            refine ev_neg (by decide) (Ev.bind (big_ev m.f2 f2) ?_)
            show Ev _ (false || (false || decide (weighS m.f2 3000 < 0)) || t.any bigM)
            by_cases h2 : decide (weighS m.f2 3000 < 0) = true
            · rw [h2]; exact ev_pos rfl (Ev.now _)
            · rw [Bool.not_eq_true] at h2
              rw [h2]
              refine ev_neg (by decide) ?_
              simpa using hnext
  have tj : Ev (fun k => gristmillref11_Big.j0 k true nm ea em fo fin.f0 fin.f1.f0 fin.f1.f1 fin.f1.f2 fin.f2 co pa) true := ev_here fun k => by simp [gristmillref11_Big.j0]
  unfold bigJ
  by_cases h1 : (em.length : Int) > 20
  · rw [decide_eq_true h1]
    exact Ev.congr (fun k => by unfold gristmillref11_Big.f; rw [if_pos h1]) tj
  · rw [decide_eq_false h1]
    by_cases h2 : (nm.size : Int) > 200
    · rw [decide_eq_true h2]
      exact Ev.congr (fun k => by unfold gristmillref11_Big.f; rw [if_neg h1, if_pos h2]) tj
    · rw [decide_eq_false h2]
      refine Ev.congr (fun k => by unfold gristmillref11_Big.f; rw [if_neg h1, if_neg h2]) (Ev.bind (big_ev fin hf) ?_)
      show Ev _ (false || (false || (decide (weighS fin 3000 < 0) || em.any bigM)))
      by_cases h3 : decide (weighS fin 3000 < 0) = true
      · rw [h3]; exact tj
      · rw [Bool.not_eq_true] at h3
        rw [h3]
        refine Ev.step (fun k => by simp only [gristmillref11_Big.j0]; rw [if_neg (by decide)]) ?_
        exact loop (by omega) em [] rfl

/-! ### names, folds -/
def okByte (c : UInt8) : Bool := decide (97 ≤ c.toNat) && decide (c.toNat ≤ 122)
def wordS (nm : ByteArray) : Bool := nm.data.toList.all okByte && (decide (1 ≤ nm.size) && decide (nm.size ≤ 32))
theorem bt_get (s : ByteArray) (n : Nat) (h : n < s.size) : bt s (n : Int) = ((s.data.toList[n]'(by simpa using h)).toNat : Int) := by
  unfold bt
  rw [dif_pos (by simpa using h)]
  simp [ByteArray.getElem_eq_getElem_data]
theorem word_ev (nm : ByteArray) (hn : nm.size ≤ 9223372036854775807) : Ev (fun k => job_word.f k nm) (wordS nm) := by
  have hsz : nm.data.toList.length = nm.size := by simp
  have loop : ∀ (d n : Nat), n + d = nm.size → Ev (fun k => job_word.l0 k nm (nm.size : Int) (n : Int)) ((nm.data.toList.drop n).all okByte && (decide (1 ≤ nm.size) && decide (nm.size ≤ 32))) := by
    intro d
    induction d with
    | zero =>
      intro n hd
      obtain rfl : n = nm.size := by omega
      refine ev_here fun k => ?_
      simp only [job_word.l0]
      rw [if_neg (by omega), List.drop_of_length_le (by omega)]
      by_cases he : nm.size = 0
      · have : nm.toList = [] := by
          have h0 : nm.data.toList = [] := List.length_eq_zero_iff.1 (by omega)
          rw [ByteArray.toList_eq]; exact h0
        rw [if_pos this, he]
        rfl
      · have : ¬ nm.toList = [] := by
          intro h0
          have : nm.data.toList = [] := by rw [← ByteArray.toList_eq]; exact h0
          have h2 := congrArg List.length this
          rw [hsz] at h2
          exact he h2
        rw [if_neg this, decide_eq_true (show 1 ≤ nm.size by omega)]
        by_cases h32 : (nm.size : Int) ≤ 32
        · rw [decide_eq_true h32, decide_eq_true (show nm.size ≤ 32 by omega)]; rfl
        · rw [decide_eq_false h32, decide_eq_false (show ¬ nm.size ≤ 32 by omega)]; rfl
    | succ d ih =>
      intro n hd
      have hlt : n < nm.size := by omega
      have hb := bt_get nm n hlt
      have hdr : nm.data.toList.drop n = nm.data.toList[n]'(by rw [hsz]; exact hlt) :: nm.data.toList.drop (n + 1) := List.drop_eq_getElem_cons (by rw [hsz]; exact hlt)
      rw [hdr, List.all_cons]
      generalize nm.data.toList[n]'(by rw [hsz]; exact hlt) = c at hb hdr
      have hnext := ih (n + 1) (by omega)
      have hstep : ∀ k, job_word.l0 (k + 1) nm (nm.size : Int) (n : Int) = (if (c.toNat : Int) < 97 then some false else if (c.toNat : Int) > 122 then some false else job_word.l0 k nm (nm.size : Int) ((n + 1 : Nat) : Int)) := by
        intro k
        simp only [job_word.l0]
        rw [if_pos (by omega), if_pos (by omega), if_pos (by omega), hb, wrap_nat (by omega)]
      unfold okByte
      by_cases c0 : (c.toNat : Int) < 97
      · rw [decide_eq_false (show ¬ 97 ≤ c.toNat by omega)]
        exact Ev.step hstep (ev_pos c0 (Ev.now _))
      · rw [decide_eq_true (show 97 ≤ c.toNat by omega)]
        by_cases c1 : (c.toNat : Int) > 122
        · rw [decide_eq_false (show ¬ c.toNat ≤ 122 by omega)]
          exact Ev.step hstep (ev_neg c0 (ev_pos c1 (Ev.now _)))
        · rw [decide_eq_true (show c.toNat ≤ 122 by omega)]
          exact Ev.step hstep (ev_neg c0 (ev_neg c1 (by unfold okByte at hnext; simpa using hnext)))
  have := loop nm.size 0 (by omega)
  exact this
theorem fold_some (fo : Int) : ∃ fn, job_Fold.f fo = some fn ∧ (fn.toList.isEmpty = true ↔ (fo < 0 ∨ 6 < fo)) ∧ (fn.toList = [] ↔ (fo < 0 ∨ 6 < fo)) := by
  by_cases h0 : fo < 0
  · refine ⟨⟨#[]⟩, by unfold job_Fold.f; rw [if_pos h0], ?_, ?_⟩ <;> rw [ByteArray.toList_eq]
    · exact ⟨fun _ => .inl h0, fun _ => rfl⟩
    · exact ⟨fun _ => .inl h0, fun _ => rfl⟩
  · by_cases h7 : fo ≥ 7
    · refine ⟨⟨#[]⟩, by unfold job_Fold.f; rw [if_neg h0, if_pos h7], ?_, ?_⟩ <;> rw [ByteArray.toList_eq]
      · exact ⟨fun _ => .inr (by omega), fun _ => rfl⟩
      · exact ⟨fun _ => .inr (by omega), fun _ => rfl⟩
    · have : fo = 0 ∨ fo = 1 ∨ fo = 2 ∨ fo = 3 ∨ fo = 4 ∨ fo = 5 ∨ fo = 6 := by omega
      rcases this with h | h | h | h | h | h | h <;> subst h <;> exact ⟨_, rfl, by rw [ByteArray.toList_eq]; decide, by rw [ByteArray.toList_eq]; decide⟩

/-! ### job.Right -/
def foldBad (fo : Int) : Bool := decide (fo < 0) || decide (6 < fo)
def jrS (nm : ByteArray) (ea : Int) (em : List S47) (fo : Int) (fin : S26) (pa : Int) : Int :=
  if wordS nm = false then 3 else if ea < -1 then 8 else if 255 < ea then 8 else if pa < 1 then 8 else if 8 < pa then 8 else if foldBad fo = true then 8 else if (em.length : Int) < 1 then 9 else if (8 : Int) < (em.length : Int) then 9 else firstErr (threes em ++ [fin])
theorem mem_threes {x : S26} : ∀ {em : List S47}, x ∈ threes em → ∃ m, m ∈ em ∧ (x = m.f0 ∨ x = m.f1 ∨ x = m.f2)
  | m :: t, h => by
    simp only [threes, three, List.mem_append, List.mem_cons, List.not_mem_nil, or_false] at h
    rcases h with h | h
    · exact ⟨m, List.mem_cons_self, h⟩
    · obtain ⟨m', hm, he⟩ := mem_threes h
      exact ⟨m', List.mem_cons_of_mem _ hm, he⟩
theorem jr_ev (nm : ByteArray) (ea : Int) (em : List S47) (fo : Int) (fin : S26) (co : Bool) (pa : Int) (hn : nm.size ≤ 9223372036854775807) (hb : bigJ nm em fin = false) :
    Ev (fun k => job_Right.f k nm ea em fo fin.f0 fin.f1.f0 fin.f1.f1 fin.f1.f2 fin.f2 co pa) (jrS nm ea em fo fin pa) := by
  obtain ⟨fn, hfn, he, _⟩ := fold_some fo
  unfold bigJ at hb
  simp only [Bool.or_eq_false_iff, List.any_eq_false] at hb
  obtain ⟨_, _, hb1, hb2⟩ := hb
  have hall : (threes em ++ [(⟨fin.f0, ⟨fin.f1.f0, fin.f1.f1, fin.f1.f2⟩, fin.f2⟩ : S26)]).all smallB = true := by
    rw [List.all_eq_true]
    intro x hx
    have : bigS x = false := by
      rcases List.mem_append.1 hx with hx | hx
      · obtain ⟨m, hm, e⟩ := mem_threes hx
        have := hb2 m hm
        unfold bigM at this
        simp only [Bool.or_eq_true, not_or, Bool.not_eq_true] at this
        rcases e with rfl | rfl | rfl
        · exact this.1
        · exact this.2.1
        · exact this.2.2
      · rw [List.mem_singleton.1 hx]; cases fin; exact hb1
    have := small_of this
    unfold smallB
    exact decide_eq_true (by omega)
  have hs : jobRightS (wordS nm) ea pa fn em ⟨fin.f0, ⟨fin.f1.f0, fin.f1.f1, fin.f1.f2⟩, fin.f2⟩ = jrS nm ea em fo fin pa := by
    unfold jobRightS jrS foldBad
    by_cases hf : fo < 0 ∨ 6 < fo
    · have h1 := he.2 hf
      have h2 : (decide (fo < 0) || decide (6 < fo)) = true := by simpa using hf
      rw [h1, h2]; cases fin; rfl
    · have h1 : fn.toList.isEmpty = false := by rw [← Bool.not_eq_true]; exact fun h => hf (he.1 h)
      have h2 : (decide (fo < 0) || decide (6 < fo)) = false := by rw [← Bool.not_eq_true]; simpa using hf
      rw [h1, h2]; cases fin; rfl
  refine Ev.congr (fun k => by unfold job_Right.f; rw [hfn]; simp only [Option.bind_some]; exact congrArg _ (funext fun wd => if_pos hall)) (Ev.bind (word_ev nm hn) (f := fun _ wd => some (jobRightS wd ea pa fn em ⟨fin.f0, ⟨fin.f1.f0, fin.f1.f1, fin.f1.f2⟩, fin.f2⟩)) (by rw [hs]; exact Ev.now _))
end Go.Proofs.Ytejeaiplbhgfdaa.CkLaw
