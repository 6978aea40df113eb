/- The plain laws of check.Acc, check.must, check.emit, check.Job . No Go and no memory here. -/
import Derived.Test.YtejeaiplbhgfdaaCkx7
import Derived.Test.YtejeaiplbhgfdaaCkLaw2
namespace Go.Proofs.Ytejeaiplbhgfdaa.CkLaw
open Go.RowKit Go.Proofs.YtejeaiplbhgfdaaW.PrintWords Go.Proofs.YtejeaiplbhgfdaaW.PrintLast Go.Proofs.YtejeaiplbhgfdaaW.PrintMore Go.Proofs.Ytejeaiplbhgfdaa.Ck Go.Proofs.Ytejeaiplbhgfdaa.CkIter Go.Proofs.Ytejeaiplbhgfdaa.CkFit

def commS (fo : Int) : Bool := decide (0 ≤ fo) && decide (fo ≤ 3)
theorem comm_eq (fo : Int) : check_Commutes.f fo = some (commS fo) := by
  unfold check_Commutes.f commS
  by_cases h : fo ≥ 0
  · rw [if_pos h, decide_eq_true (show 0 ≤ fo by omega)]; rfl
  · rw [if_neg h, decide_eq_false (show ¬ 0 ≤ fo by omega)]; rfl
def stageS (ea : Int) : Int := if ea ≥ 0 then 1 else 0
theorem stage_eq (nm : ByteArray) (ea : Int) (em : List S47) (fo : Int) (fin : S26) (co : Bool) (pa : Int) : check_stage.f nm ea em fo fin.f0 fin.f1.f0 fin.f1.f1 fin.f1.f2 fin.f2 co pa = some (stageS ea) := by
  unfold check_stage.f stageS
  split <;> rfl
theorem stage_01 (ea : Int) : stageS ea = 0 ∨ stageS ea = 1 := by unfold stageS; split <;> simp

/-- What check.Acc makes of a job. -/
def accS (ea : Int) (em : List S47) (fo : Int) : Int × Int :=
  if commS fo = true then (0, 0) else if fo = 4 then (1, 0) else if foldBad fo = true then (0, 3) else match em with
  | [] => (0, 3)
  | m :: _ => kindS (stageS ea) 0 m.f1
theorem acc_impl (nm : ByteArray) (ea : Int) (em : List S47) (fo : Int) (fin : S26) (co : Bool) (pa : Int) (hm : ∀ m, m ∈ em → Fit47 m) :
    ((accS ea em fo).1 = 0 ∨ (accS ea em fo).1 = 1) ∧ Ev (fun k => check_Acc.f k nm ea em fo fin.f0 fin.f1.f0 fin.f1.f1 fin.f1.f2 fin.f2 co pa) (accS ea em fo) := by
  obtain ⟨fn, hfn, _, he⟩ := fold_some fo
  have tj : Ev (fun k => check_Acc.j0 k true nm ea em fo fin.f0 fin.f1.f0 fin.f1.f1 fin.f1.f2 fin.f2 co pa) (0, 3) := ev_here fun k => by simp only [check_Acc.j0]; rfl
  unfold accS
  by_cases h0 : commS fo = true
  · rw [if_pos h0]
    exact ⟨.inl rfl, Ev.congr (fun k => by unfold check_Acc.f; rw [comm_eq]; simp only [Option.bind_some]; rw [if_pos h0]) (Ev.now _)⟩
  · rw [if_neg h0]
    by_cases h4 : fo = 4
    · rw [if_pos h4]
      exact ⟨.inr rfl, Ev.congr (fun k => by unfold check_Acc.f; rw [comm_eq]; simp only [Option.bind_some]; rw [if_neg h0, if_pos h4]) (Ev.now _)⟩
    · rw [if_neg h4]
      by_cases hb : foldBad fo = true
      · rw [if_pos hb]
        have hb' : fo < 0 ∨ 6 < fo := by unfold foldBad at hb; simpa using hb
        exact ⟨.inl rfl, Ev.congr (fun k => by unfold check_Acc.f; rw [comm_eq]; simp only [Option.bind_some]; rw [if_neg h0, if_neg h4, hfn]; simp only [Option.bind_some]; rw [if_pos (he.2 hb')]) tj⟩
      · rw [if_neg hb]
        have hb' : ¬ (fo < 0 ∨ 6 < fo) := by unfold foldBad at hb; simpa using hb
        have hn : ¬ fn.toList = [] := fun h => hb' (he.1 h)
        cases em with
        | nil =>
          exact ⟨.inl rfl, Ev.congr (fun k => by unfold check_Acc.f; rw [comm_eq]; simp only [Option.bind_some]; rw [if_neg h0, if_neg h4, hfn]; simp only [Option.bind_some]; rw [if_neg hn]; rfl) tj⟩
        | cons m t =>
          obtain ⟨_, g1, _⟩ := hm m List.mem_cons_self
          obtain ⟨i1, i2⟩ := kind_impl (stageS ea) 0 (.inl rfl) m.f1 g1
          have hd : ¬ (((m :: t).length : Int) == 0) = true := by simp only [List.length_cons, beq_iff_eq]; omega
          have hp : (0 : Int) < ((m :: t).length : Int) := by simp
          have hj : Ev (fun k => check_Acc.j0 k (((m :: t).length : Int) == 0) nm ea (m :: t) fo fin.f0 fin.f1.f0 fin.f1.f1 fin.f1.f2 fin.f2 co pa) (kindS (stageS ea) 0 m.f1) := by
            refine Ev.step (f := fun k => (check_Kind.f k m.f1.f0 m.f1.f1.f0 m.f1.f1.f1 m.f1.f1.f2 m.f1.f2 (stageS ea) 0).bind fun bt => some (bt.1, bt.2)) (fun k => ?_) (Ev.bind i2 (Ev.now _))
            simp only [check_Acc.j0]
            rw [if_neg hd, if_pos hp, stage_eq]
            rfl
          exact ⟨i1, Ev.congr (fun k => by unfold check_Acc.f; rw [comm_eq]; simp only [Option.bind_some]; rw [if_neg h0, if_neg h4, hfn]; simp only [Option.bind_some]; rw [if_neg hn]) hj⟩

def mustS (x : S26) (st acc want code : Int) : Int := if (kindS st acc x).2 = 0 then (if (kindS st acc x).1 = want then (kindS st acc x).2 else code) else (kindS st acc x).2
theorem must_ev (x : S26) (g : Fit26 x) (st acc want code : Int) (hacc : acc = 0 ∨ acc = 1) :
    Ev (fun k => check_must.f k x.f0 x.f1.f0 x.f1.f1 x.f1.f2 x.f2 st acc want code) (mustS x st acc want code) := by
  refine Ev.congr (fun k => by unfold check_must.f; rfl) (Ev.bind (kind_impl st acc hacc x g).2 ?_)
  unfold mustS
  split
  · split <;> exact Ev.now _
  · exact Ev.now _
def emitS (fo st acc : Int) (m : S47) : Int :=
  if mustS m.f0 st 0 1 120 = 0 then (if (kindS st 0 m.f1).2 = 0 then (if fo = 3 then mustS m.f2 st 0 0 120 else if (kindS st 0 m.f1).1 = acc then mustS m.f2 st 0 0 120 else 122) else (kindS st 0 m.f1).2) else mustS m.f0 st 0 1 120
theorem emit_ev (nm : ByteArray) (ea : Int) (em : List S47) (fo : Int) (fin : S26) (co : Bool) (pa : Int) (m : S47) (g : Fit47 m) (acc : Int) :
    Ev (fun k => check_emit.f k nm ea em fo fin.f0 fin.f1.f0 fin.f1.f1 fin.f1.f2 fin.f2 co pa m.f0.f0 m.f0.f1.f0 m.f0.f1.f1 m.f0.f1.f2 m.f0.f2 m.f1.f0 m.f1.f1.f0 m.f1.f1.f1 m.f1.f1.f2 m.f1.f2 m.f2.f0 m.f2.f1.f0 m.f2.f1.f1 m.f2.f1.f2 m.f2.f2 acc) (emitS fo (stageS ea) acc m) := by
  obtain ⟨g0, g1, g2⟩ := g
  refine Ev.congr (fun k => by unfold check_emit.f; rw [stage_eq]; rfl) (Ev.bind (must_ev m.f0 g0 (stageS ea) 0 1 120 (.inl rfl)) ?_)
  unfold emitS
  split
  · refine Ev.bind (kind_impl (stageS ea) 0 (.inl rfl) m.f1 g1).2 ?_
    split
    · split
      · exact Ev.bind (must_ev m.f2 g2 (stageS ea) 0 0 120 (.inl rfl)) (Ev.now _)
      · split
        · exact Ev.bind (must_ev m.f2 g2 (stageS ea) 0 0 120 (.inl rfl)) (Ev.now _)
        · exact Ev.now _
    · exact Ev.now _
  · exact Ev.now _

/-! ### check.Job -/
def endJ (fo : Int) (fin : S26) (co : Bool) (acc ae : Int) : Int × Int :=
  if ae = 0 then (if mustS fin 2 acc 1 120 = 0 then (if co = true then (if commS fo = true then (-1, 0) else (-1, 123)) else (-1, 0)) else (8, mustS fin 2 acc 1 120)) else (-1, ae)
def loopJ (fo st : Int) (fin : S26) (co : Bool) (acc ae : Int) : Nat → List S47 → Int × Int
  | _, [] => endJ fo fin co acc ae
  | i, m :: t => if emitS fo st acc m = 0 then loopJ fo st fin co acc ae (i + 1) t else ((i : Int), emitS fo st acc m)
def jobS (nm : ByteArray) (ea : Int) (em : List S47) (fo : Int) (fin : S26) (co : Bool) (pa : Int) : Int × Int :=
  if jrS nm ea em fo fin pa = 0 then loopJ fo (stageS ea) fin co (accS ea em fo).1 (accS ea em fo).2 0 em else (-1, jrS nm ea em fo fin pa)
theorem job_ev (nm : ByteArray) (ea : Int) (em : List S47) (fo : Int) (fin : S26) (co : Bool) (pa : Int) (hn : nm.size ≤ 9223372036854775807) (hl : em.length ≤ 9223372036854775807) (hm : ∀ m, m ∈ em → Fit47 m) (hf : Fit26 fin) (hb : bigJ nm em fin = false) :
    Ev (fun k => check_Job.f k nm ea em fo fin.f0 fin.f1.f0 fin.f1.f1 fin.f1.f2 fin.f2 co pa) (jobS nm ea em fo fin co pa) := by
  refine Ev.congr (fun k => by unfold check_Job.f; rfl) (Ev.bind (jr_ev nm ea em fo fin co pa hn hb) ?_)
  unfold jobS
  by_cases hz : jrS nm ea em fo fin pa = 0
  · rw [if_pos hz]
    obtain ⟨a1, a2⟩ := acc_impl nm ea em fo fin co pa hm
    refine ev_pos hz (Ev.bind a2 ?_)
    generalize accS ea em fo = ac at a1
    obtain ⟨acc, ae⟩ := ac
    have loop : ∀ (rest pre : List S47), em = pre ++ rest → Ev (fun k => check_Job.l0 k acc ae em (em.length : Int) (pre.length : Int) nm ea em fo fin.f0 fin.f1.f0 fin.f1.f1 fin.f1.f2 fin.f2 co pa) (loopJ fo (stageS ea) fin co acc ae pre.length rest) := by
      intro rest
      induction rest with
      | nil =>
        intro pre hp
        rw [List.append_nil] at hp
        subst hp
        refine Ev.step (fun k => by simp only [check_Job.l0]; rw [if_neg (by omega)]) ?_
        unfold loopJ endJ
        by_cases h0 : ae = 0
        · rw [if_pos h0]
          refine ev_pos h0 (Ev.bind (must_ev fin hf 2 acc 1 120 a1) ?_)
          by_cases h1 : mustS fin 2 acc 1 120 = 0
          · rw [if_pos h1, if_pos h1]
            cases co
            · exact Ev.now _
            · refine Ev.congr (f := fun _ => if commS fo = true then some (-1, 0) else some (-1, 123)) (fun k => by rw [comm_eq]; rfl) ?_
              show Ev (fun k => if commS fo = true then some (-1, 0) else some (-1, 123)) (if commS fo = true then (-1, 0) else (-1, 123))
              split <;> exact Ev.now _
          · rw [if_neg h1, if_neg h1]
            exact Ev.now _
        · rw [if_neg h0]
          exact ev_neg h0 (Ev.now _)
      | cons m t ih =>
        intro pre hp
        have hlen : em.length = pre.length + (t.length + 1) := by rw [hp]; simp
        have hrd : rd_T47 em (pre.length : Int) = m := by rw [hp]; exact rd47_at pre t m
        have hnext := ih (pre ++ [m]) (by rw [hp]; simp)
        have g := hm m (by rw [hp]; simp)
        refine Ev.step (f := fun k => (check_emit.f k nm ea em fo fin.f0 fin.f1.f0 fin.f1.f1 fin.f1.f2 fin.f2 co pa m.f0.f0 m.f0.f1.f0 m.f0.f1.f1 m.f0.f1.f2 m.f0.f2 m.f1.f0 m.f1.f1.f0 m.f1.f1.f1 m.f1.f1.f2 m.f1.f2 m.f2.f0 m.f2.f1.f0 m.f2.f1.f1 m.f2.f1.f2 m.f2.f2 acc).bind fun e => if e = 0 then check_Job.l0 k acc ae em (em.length : Int) ((pre ++ [m]).length : Int) nm ea em fo fin.f0 fin.f1.f0 fin.f1.f1 fin.f1.f2 fin.f2 co pa else some ((pre.length : Int), e)) (fun k => ?_) (Ev.bind (emit_ev nm ea em fo fin co pa m g acc) ?_)
        · simp only [check_Job.l0]
          rw [if_pos (by omega), if_pos (by omega), if_pos (by omega), hrd, wrap_nat (by omega)]
          simp
        · unfold loopJ
          split
          · simpa using hnext
          · exact Ev.now _
    exact loop em [] rfl
  · rw [if_neg hz]
    exact ev_neg hz (Ev.now _)

end Go.Proofs.Ytejeaiplbhgfdaa.CkLaw
